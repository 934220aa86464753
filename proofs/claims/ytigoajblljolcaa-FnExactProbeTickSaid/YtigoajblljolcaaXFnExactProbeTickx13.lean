-- Written by this session's own program (xprint.py) over the kit's print.
import Derived.Test.YtigoajblljolcaaXFnExactProbeTickx0
import Derived.Test.YtigoajblljolcaaXFnExactProbeTickx1
import Derived.Test.YtigoajblljolcaaXFnExactProbeTickx2
import Derived.Test.YtigoajblljolcaaXFnExactProbeTickx3
import Derived.Test.YtigoajblljolcaaXFnExactProbeTickx7
import Derived.Test.YtigoajblljolcaaXFnExactProbeTickx12
namespace Go.Proofs.Ytigoajblljolcaa.XFnExactProbeTick
open Go.RowKit Go.Proofs.YtigoajblljolcaaW.PrintWords Go.Proofs.YtigoajblljolcaaW.PrintLast Go.Proofs.YtigoajblljolcaaW.PrintMore
attribute [local go_sem] max2_int min2_int max_two min_two max_three min_three max_four min_four   -- for this text's walks alone
set_option linter.unusedVariables false
set_option linter.unusedSimpArgs false


/-! ### laws_FnExactProbeTick: function 14 -/
mutual
def laws_FnExactProbeTick.j0 : Nat → Int → Int → Int → Int → Bool → List Int → Int → Int → Int → Int → Int → Int → List (S80) → List Int → Int → Int → Int → Int → Int → List Int → Int → Int → Int → Int → Int → Int → List (S82) → List Int → Int → Int → Int → Int → Int → Option (Bool)
  | 0, _, _, _, _, _, _, _, _, _, _, _, _, _, _, _, _, _, _, _, _, _, _, _, _, _, _, _, _, _, _, _, _, _ => none
  | k + 1, x7, x8, x12, x13, x63, x361000, x361001, x361002, x361003, x361004, x361005, x362000, x362001, x387000, x387001, x387002, x387003, x387004, x387005, x396000, x396001, x396002, x396003, x396004, x396005, x401000, x401001, x412000, x412001, x412002, x412003, x412004, x412005 => if x63 = true then (some false) else ((laws_toProber.f k x361000 x361001 x361002 x361003 x361004 x361005).bind fun bt413 => ((laws_eqProber.f k x396000 x396001 x396002 x396003 x396004 x396005 bt413.1 bt413.2.1 bt413.2.2.1 bt413.2.2.2.1 bt413.2.2.2.2.1 bt413.2.2.2.2.2).bind fun t421 => (if t421 = true then ((laws_toTable.f k x362000 x362001).bind fun bt422 => ((laws_eqTable.f k x401000 x401001 bt422.1 bt422.2).bind fun t426 => (if t426 = true then ((laws_markProber.f k x396000 x396001 x396002 x396003 x396004 x396005 1).bind fun bt427 => ((laws_markTable.f k x401000 x401001 bt427.1).bind fun bt429 => (if bt429.1 < 0 then (laws_FnExactProbeTick.j1 k x7 x8 true x361000 x361001 x361002 x361003 x361004 x361005 x362000 x362001 x387000 x387001 x387002 x387003 x387004 x387005 x412000 x412001 x412002 x412003 x412004 x412005) else ((laws_eqProber.f k x412000 x412001 x412002 x412003 x412004 x412005 x387000 x387001 x387002 x387003 x387004 x387005).bind fun t431 => (if t431 = true then (if x12 = x7 then (laws_FnExactProbeTick.j1 k x7 x8 (x13 != x8) x361000 x361001 x361002 x361003 x361004 x361005 x362000 x362001 x387000 x387001 x387002 x387003 x387004 x387005 x412000 x412001 x412002 x412003 x412004 x412005) else (laws_FnExactProbeTick.j1 k x7 x8 true x361000 x361001 x361002 x361003 x361004 x361005 x362000 x362001 x387000 x387001 x387002 x387003 x387004 x387005 x412000 x412001 x412002 x412003 x412004 x412005)) else (laws_FnExactProbeTick.j1 k x7 x8 true x361000 x361001 x361002 x361003 x361004 x361005 x362000 x362001 x387000 x387001 x387002 x387003 x387004 x387005 x412000 x412001 x412002 x412003 x412004 x412005)))))) else (some false)))) else (some false))))
def laws_FnExactProbeTick.j1 : Nat → Int → Int → Bool → List Int → Int → Int → Int → Int → Int → Int → List (S80) → List Int → Int → Int → Int → Int → Int → List Int → Int → Int → Int → Int → Int → Option (Bool)
  | 0, _, _, _, _, _, _, _, _, _, _, _, _, _, _, _, _, _, _, _, _, _, _, _ => none
  | k + 1, x7, x8, x97, x361000, x361001, x361002, x361003, x361004, x361005, x362000, x362001, x387000, x387001, x387002, x387003, x387004, x387005, x412000, x412001, x412002, x412003, x412004, x412005 => if x97 = true then (some false) else ((laws_markProber.f k x412000 x412001 x412002 x412003 x412004 x412005 1).bind fun bt432 => ((laws_heldProber.f k bt432.2 x412001 x412002 x412003 x412004 x412005 1).bind fun t434 => (if t434 < 0 then (some false) else (if t434 = bt432.1 then ((laws_toProber.f k x361000 x361001 x361002 x361003 x361004 x361005).bind fun bt435 => ((laws_toTable.f k x362000 x362001).bind fun bt443 => ((impl_ProbeTick.f k bt435.1 bt435.2.1 bt435.2.2.1 bt435.2.2.2.1 bt435.2.2.2.2.1 bt435.2.2.2.2.2 bt443.1 bt443.2).bind fun bt447 => ((laws_eqProber.f k bt447.1 bt447.2.1 bt447.2.2.1 bt447.2.2.2.1 bt447.2.2.2.2.1 bt447.2.2.2.2.2.1 x387000 x387001 x387002 x387003 x387004 x387005).bind fun t458 => (if t458 = true then (if bt447.2.2.2.2.2.2.1 = x7 then (laws_FnExactProbeTick.j2 k bt432.1 (bt447.2.2.2.2.2.2.2 != x8) bt432.2 x412001 x412002 x412003 x412004 x412005) else (laws_FnExactProbeTick.j2 k bt432.1 true bt432.2 x412001 x412002 x412003 x412004 x412005)) else (laws_FnExactProbeTick.j2 k bt432.1 true bt432.2 x412001 x412002 x412003 x412004 x412005)))))) else (some false)))))
def laws_FnExactProbeTick.j2 : Nat → Int → Bool → List Int → Int → Int → Int → Int → Int → Option (Bool)
  | 0, _, _, _, _, _, _, _, _ => none
  | k + 1, x15, x131, x412000, x412001, x412002, x412003, x412004, x412005 => if x131 = true then (some false) else ((laws_heldProber.f k x412000 x412001 x412002 x412003 x412004 x412005 1).bind fun t459 => (if t459 < 0 then (some false) else (if t459 = x15 then (some true) else (some false))))
end
def laws_FnExactProbeTick.f (k : Nat) (l0_0 : List Int) (a0_1 : Int) (a0_2 : Int) (a0_3 : Int) (a0_4 : Int) (a0_5 : Int) (a1_0 : Int) (l1_1 : List (S80)) : Option (Bool) := (laws_szProber.f l0_0 a0_1 a0_2 a0_3 a0_4 a0_5 1048576).bind fun t362 => (if t362 < 0 then (some true) else ((laws_szTable.f a1_0 l1_1 t362).bind fun t363 => (if t363 < 0 then (some true) else ((laws_toProber.f k l0_0 a0_1 a0_2 a0_3 a0_4 a0_5).bind fun bt364 => ((laws_toTable.f k a1_0 l1_1).bind fun bt372 => ((spec_ProbeTick.f k bt364.1 bt364.2.1 bt364.2.2.1 bt364.2.2.2.1 bt364.2.2.2.2.1 bt364.2.2.2.2.2 bt372.1 bt372.2).bind fun bt376 => ((laws_toProber.f k l0_0 a0_1 a0_2 a0_3 a0_4 a0_5).bind fun bt387 => ((laws_toTable.f k a1_0 l1_1).bind fun bt396 => ((impl_ProbeTick.f k bt387.1 bt387.2.1 bt387.2.2.1 bt387.2.2.2.1 bt387.2.2.2.2.1 bt387.2.2.2.2.2 bt396.1 bt396.2).bind fun bt401 => ((laws_eqProber.f k bt401.1 bt401.2.1 bt401.2.2.1 bt401.2.2.2.1 bt401.2.2.2.2.1 bt401.2.2.2.2.2.1 bt376.1 bt376.2.1 bt376.2.2.1 bt376.2.2.2.1 bt376.2.2.2.2.1 bt376.2.2.2.2.2.1).bind fun t412 => (if t412 = true then (if bt401.2.2.2.2.2.2.1 = bt376.2.2.2.2.2.2.1 then (laws_FnExactProbeTick.j0 k bt376.2.2.2.2.2.2.1 bt376.2.2.2.2.2.2.2 bt401.2.2.2.2.2.2.1 bt401.2.2.2.2.2.2.2 (bt401.2.2.2.2.2.2.2 != bt376.2.2.2.2.2.2.2) l0_0 a0_1 a0_2 a0_3 a0_4 a0_5 a1_0 l1_1 bt376.1 bt376.2.1 bt376.2.2.1 bt376.2.2.2.1 bt376.2.2.2.2.1 bt376.2.2.2.2.2.1 bt387.1 bt387.2.1 bt387.2.2.1 bt387.2.2.2.1 bt387.2.2.2.2.1 bt387.2.2.2.2.2 bt396.1 bt396.2 bt401.1 bt401.2.1 bt401.2.2.1 bt401.2.2.2.1 bt401.2.2.2.2.1 bt401.2.2.2.2.2.1) else (laws_FnExactProbeTick.j0 k bt376.2.2.2.2.2.2.1 bt376.2.2.2.2.2.2.2 bt401.2.2.2.2.2.2.1 bt401.2.2.2.2.2.2.2 true l0_0 a0_1 a0_2 a0_3 a0_4 a0_5 a1_0 l1_1 bt376.1 bt376.2.1 bt376.2.2.1 bt376.2.2.2.1 bt376.2.2.2.2.1 bt376.2.2.2.2.2.1 bt387.1 bt387.2.1 bt387.2.2.1 bt387.2.2.2.1 bt387.2.2.2.2.1 bt387.2.2.2.2.2 bt396.1 bt396.2 bt401.1 bt401.2.1 bt401.2.2.1 bt401.2.2.2.1 bt401.2.2.2.2.1 bt401.2.2.2.2.2.1)) else (laws_FnExactProbeTick.j0 k bt376.2.2.2.2.2.2.1 bt376.2.2.2.2.2.2.2 bt401.2.2.2.2.2.2.1 bt401.2.2.2.2.2.2.2 true l0_0 a0_1 a0_2 a0_3 a0_4 a0_5 a1_0 l1_1 bt376.1 bt376.2.1 bt376.2.2.1 bt376.2.2.2.1 bt376.2.2.2.2.1 bt376.2.2.2.2.2.1 bt387.1 bt387.2.1 bt387.2.2.1 bt387.2.2.2.1 bt387.2.2.2.2.1 bt387.2.2.2.2.2 bt396.1 bt396.2 bt401.1 bt401.2.1 bt401.2.2.1 bt401.2.2.2.1 bt401.2.2.2.2.1 bt401.2.2.2.2.2.1))))))))))))
theorem laws_FnExactProbeTick.mono_l : ∀ k, (∀ y0 y1 y2 y3 y4 y5 y6 y7 y8 y9 y10 y11 y12 y13 y14 y15 y16 y17 y18 y19 y20 y21 y22 y23 y24 y25 y26 y27 y28 y29 y30 y31 y32, LeO (laws_FnExactProbeTick.j0 k y0 y1 y2 y3 y4 y5 y6 y7 y8 y9 y10 y11 y12 y13 y14 y15 y16 y17 y18 y19 y20 y21 y22 y23 y24 y25 y26 y27 y28 y29 y30 y31 y32) (laws_FnExactProbeTick.j0 (k + 1) y0 y1 y2 y3 y4 y5 y6 y7 y8 y9 y10 y11 y12 y13 y14 y15 y16 y17 y18 y19 y20 y21 y22 y23 y24 y25 y26 y27 y28 y29 y30 y31 y32)) ∧ (∀ y0 y1 y2 y3 y4 y5 y6 y7 y8 y9 y10 y11 y12 y13 y14 y15 y16 y17 y18 y19 y20 y21 y22, LeO (laws_FnExactProbeTick.j1 k y0 y1 y2 y3 y4 y5 y6 y7 y8 y9 y10 y11 y12 y13 y14 y15 y16 y17 y18 y19 y20 y21 y22) (laws_FnExactProbeTick.j1 (k + 1) y0 y1 y2 y3 y4 y5 y6 y7 y8 y9 y10 y11 y12 y13 y14 y15 y16 y17 y18 y19 y20 y21 y22)) ∧ (∀ y0 y1 y2 y3 y4 y5 y6 y7, LeO (laws_FnExactProbeTick.j2 k y0 y1 y2 y3 y4 y5 y6 y7) (laws_FnExactProbeTick.j2 (k + 1) y0 y1 y2 y3 y4 y5 y6 y7))
  | 0 => ⟨fun _ _ _ _ _ _ _ _ _ _ _ _ _ _ _ _ _ _ _ _ _ _ _ _ _ _ _ _ _ _ _ _ _ r h => by simp [laws_FnExactProbeTick.j0] at h, fun _ _ _ _ _ _ _ _ _ _ _ _ _ _ _ _ _ _ _ _ _ _ _ r h => by simp [laws_FnExactProbeTick.j1] at h, fun _ _ _ _ _ _ _ _ r h => by simp [laws_FnExactProbeTick.j2] at h⟩
  | k + 1 => by
    obtain ⟨ih0, ih1, ih2⟩ := laws_FnExactProbeTick.mono_l k
    refine ⟨?_, ?_, ?_⟩
    · intro y0 y1 y2 y3 y4 y5 y6 y7 y8 y9 y10 y11 y12 y13 y14 y15 y16 y17 y18 y19 y20 y21 y22 y23 y24 y25 y26 y27 y28 y29 y30 y31 y32
      unfold laws_FnExactProbeTick.j0
      repeat' first
      | (with_reducible exact ih0 _ _ _ _ _ _ _ _ _ _ _ _ _ _ _ _ _ _ _ _ _ _ _ _ _ _ _ _ _ _ _ _ _)
      | (with_reducible exact ih1 _ _ _ _ _ _ _ _ _ _ _ _ _ _ _ _ _ _ _ _ _ _ _)
      | (with_reducible exact ih2 _ _ _ _ _ _ _ _)
      | (with_reducible exact impl_ProbeTick.mono _ _ _ _ _ _ _ _ _)
      | (with_reducible exact laws_eqProber.mono _ _ _ _ _ _ _ _ _ _ _ _ _)
      | (with_reducible exact laws_eqTable.mono _ _ _ _ _)
      | (with_reducible exact laws_heldProber.mono _ _ _ _ _ _ _ _)
      | (with_reducible exact laws_markProber.mono _ _ _ _ _ _ _ _)
      | (with_reducible exact laws_markTable.mono _ _ _ _)
      | (with_reducible exact laws_toProber.mono _ _ _ _ _ _ _)
      | (with_reducible exact laws_toTable.mono _ _ _)
      | (with_reducible exact spec_ProbeTick.mono _ _ _ _ _ _ _ _ _)
      | (with_reducible exact LeO.refl _)
      | (with_reducible exact LeO.none _)
      | (with_reducible refine LeO.ite ?_ ?_)
      | (with_reducible refine LeO.bind ?_ (fun _ => ?_))
      | exact ih0 _ _ _ _ _ _ _ _ _ _ _ _ _ _ _ _ _ _ _ _ _ _ _ _ _ _ _ _ _ _ _ _ _
      | exact ih1 _ _ _ _ _ _ _ _ _ _ _ _ _ _ _ _ _ _ _ _ _ _ _
      | exact ih2 _ _ _ _ _ _ _ _
      | exact impl_ProbeTick.mono _ _ _ _ _ _ _ _ _
      | exact laws_eqProber.mono _ _ _ _ _ _ _ _ _ _ _ _ _
      | exact laws_eqTable.mono _ _ _ _ _
      | exact laws_heldProber.mono _ _ _ _ _ _ _ _
      | exact laws_markProber.mono _ _ _ _ _ _ _ _
      | exact laws_markTable.mono _ _ _ _
      | exact laws_toProber.mono _ _ _ _ _ _ _
      | exact laws_toTable.mono _ _ _
      | exact spec_ProbeTick.mono _ _ _ _ _ _ _ _ _
      | exact LeO.none _
      | refine LeO.ite ?_ ?_
      | refine LeO.bind ?_ (fun _ => ?_)
    · intro y0 y1 y2 y3 y4 y5 y6 y7 y8 y9 y10 y11 y12 y13 y14 y15 y16 y17 y18 y19 y20 y21 y22
      unfold laws_FnExactProbeTick.j1
      repeat' first
      | (with_reducible exact ih0 _ _ _ _ _ _ _ _ _ _ _ _ _ _ _ _ _ _ _ _ _ _ _ _ _ _ _ _ _ _ _ _ _)
      | (with_reducible exact ih1 _ _ _ _ _ _ _ _ _ _ _ _ _ _ _ _ _ _ _ _ _ _ _)
      | (with_reducible exact ih2 _ _ _ _ _ _ _ _)
      | (with_reducible exact impl_ProbeTick.mono _ _ _ _ _ _ _ _ _)
      | (with_reducible exact laws_eqProber.mono _ _ _ _ _ _ _ _ _ _ _ _ _)
      | (with_reducible exact laws_eqTable.mono _ _ _ _ _)
      | (with_reducible exact laws_heldProber.mono _ _ _ _ _ _ _ _)
      | (with_reducible exact laws_markProber.mono _ _ _ _ _ _ _ _)
      | (with_reducible exact laws_markTable.mono _ _ _ _)
      | (with_reducible exact laws_toProber.mono _ _ _ _ _ _ _)
      | (with_reducible exact laws_toTable.mono _ _ _)
      | (with_reducible exact spec_ProbeTick.mono _ _ _ _ _ _ _ _ _)
      | (with_reducible exact LeO.refl _)
      | (with_reducible exact LeO.none _)
      | (with_reducible refine LeO.ite ?_ ?_)
      | (with_reducible refine LeO.bind ?_ (fun _ => ?_))
      | exact ih0 _ _ _ _ _ _ _ _ _ _ _ _ _ _ _ _ _ _ _ _ _ _ _ _ _ _ _ _ _ _ _ _ _
      | exact ih1 _ _ _ _ _ _ _ _ _ _ _ _ _ _ _ _ _ _ _ _ _ _ _
      | exact ih2 _ _ _ _ _ _ _ _
      | exact impl_ProbeTick.mono _ _ _ _ _ _ _ _ _
      | exact laws_eqProber.mono _ _ _ _ _ _ _ _ _ _ _ _ _
      | exact laws_eqTable.mono _ _ _ _ _
      | exact laws_heldProber.mono _ _ _ _ _ _ _ _
      | exact laws_markProber.mono _ _ _ _ _ _ _ _
      | exact laws_markTable.mono _ _ _ _
      | exact laws_toProber.mono _ _ _ _ _ _ _
      | exact laws_toTable.mono _ _ _
      | exact spec_ProbeTick.mono _ _ _ _ _ _ _ _ _
      | exact LeO.none _
      | refine LeO.ite ?_ ?_
      | refine LeO.bind ?_ (fun _ => ?_)
    · intro y0 y1 y2 y3 y4 y5 y6 y7
      unfold laws_FnExactProbeTick.j2
      repeat' first
      | (with_reducible exact ih0 _ _ _ _ _ _ _ _ _ _ _ _ _ _ _ _ _ _ _ _ _ _ _ _ _ _ _ _ _ _ _ _ _)
      | (with_reducible exact ih1 _ _ _ _ _ _ _ _ _ _ _ _ _ _ _ _ _ _ _ _ _ _ _)
      | (with_reducible exact ih2 _ _ _ _ _ _ _ _)
      | (with_reducible exact impl_ProbeTick.mono _ _ _ _ _ _ _ _ _)
      | (with_reducible exact laws_eqProber.mono _ _ _ _ _ _ _ _ _ _ _ _ _)
      | (with_reducible exact laws_eqTable.mono _ _ _ _ _)
      | (with_reducible exact laws_heldProber.mono _ _ _ _ _ _ _ _)
      | (with_reducible exact laws_markProber.mono _ _ _ _ _ _ _ _)
      | (with_reducible exact laws_markTable.mono _ _ _ _)
      | (with_reducible exact laws_toProber.mono _ _ _ _ _ _ _)
      | (with_reducible exact laws_toTable.mono _ _ _)
      | (with_reducible exact spec_ProbeTick.mono _ _ _ _ _ _ _ _ _)
      | (with_reducible exact LeO.refl _)
      | (with_reducible exact LeO.none _)
      | (with_reducible refine LeO.ite ?_ ?_)
      | (with_reducible refine LeO.bind ?_ (fun _ => ?_))
      | exact ih0 _ _ _ _ _ _ _ _ _ _ _ _ _ _ _ _ _ _ _ _ _ _ _ _ _ _ _ _ _ _ _ _ _
      | exact ih1 _ _ _ _ _ _ _ _ _ _ _ _ _ _ _ _ _ _ _ _ _ _ _
      | exact ih2 _ _ _ _ _ _ _ _
      | exact impl_ProbeTick.mono _ _ _ _ _ _ _ _ _
      | exact laws_eqProber.mono _ _ _ _ _ _ _ _ _ _ _ _ _
      | exact laws_eqTable.mono _ _ _ _ _
      | exact laws_heldProber.mono _ _ _ _ _ _ _ _
      | exact laws_markProber.mono _ _ _ _ _ _ _ _
      | exact laws_markTable.mono _ _ _ _
      | exact laws_toProber.mono _ _ _ _ _ _ _
      | exact laws_toTable.mono _ _ _
      | exact spec_ProbeTick.mono _ _ _ _ _ _ _ _ _
      | exact LeO.none _
      | refine LeO.ite ?_ ?_
      | refine LeO.bind ?_ (fun _ => ?_)
theorem laws_FnExactProbeTick.mono : ∀ a0 a1 a2 a3 a4 a5 a6 a7 k, LeO (laws_FnExactProbeTick.f k a0 a1 a2 a3 a4 a5 a6 a7) (laws_FnExactProbeTick.f (k + 1) a0 a1 a2 a3 a4 a5 a6 a7) := by
  intro a0 a1 a2 a3 a4 a5 a6 a7 k
  obtain ⟨ih0, ih1, ih2⟩ := laws_FnExactProbeTick.mono_l k
  unfold laws_FnExactProbeTick.f
  repeat' first
      | (with_reducible exact ih0 _ _ _ _ _ _ _ _ _ _ _ _ _ _ _ _ _ _ _ _ _ _ _ _ _ _ _ _ _ _ _ _ _)
      | (with_reducible exact ih1 _ _ _ _ _ _ _ _ _ _ _ _ _ _ _ _ _ _ _ _ _ _ _)
      | (with_reducible exact ih2 _ _ _ _ _ _ _ _)
      | (with_reducible exact impl_ProbeTick.mono _ _ _ _ _ _ _ _ _)
      | (with_reducible exact laws_eqProber.mono _ _ _ _ _ _ _ _ _ _ _ _ _)
      | (with_reducible exact laws_eqTable.mono _ _ _ _ _)
      | (with_reducible exact laws_heldProber.mono _ _ _ _ _ _ _ _)
      | (with_reducible exact laws_markProber.mono _ _ _ _ _ _ _ _)
      | (with_reducible exact laws_markTable.mono _ _ _ _)
      | (with_reducible exact laws_toProber.mono _ _ _ _ _ _ _)
      | (with_reducible exact laws_toTable.mono _ _ _)
      | (with_reducible exact spec_ProbeTick.mono _ _ _ _ _ _ _ _ _)
      | (with_reducible exact LeO.refl _)
      | (with_reducible exact LeO.none _)
      | (with_reducible refine LeO.ite ?_ ?_)
      | (with_reducible refine LeO.bind ?_ (fun _ => ?_))
      | exact ih0 _ _ _ _ _ _ _ _ _ _ _ _ _ _ _ _ _ _ _ _ _ _ _ _ _ _ _ _ _ _ _ _ _
      | exact ih1 _ _ _ _ _ _ _ _ _ _ _ _ _ _ _ _ _ _ _ _ _ _ _
      | exact ih2 _ _ _ _ _ _ _ _
      | exact impl_ProbeTick.mono _ _ _ _ _ _ _ _ _
      | exact laws_eqProber.mono _ _ _ _ _ _ _ _ _ _ _ _ _
      | exact laws_eqTable.mono _ _ _ _ _
      | exact laws_heldProber.mono _ _ _ _ _ _ _ _
      | exact laws_markProber.mono _ _ _ _ _ _ _ _
      | exact laws_markTable.mono _ _ _ _
      | exact laws_toProber.mono _ _ _ _ _ _ _
      | exact laws_toTable.mono _ _ _
      | exact spec_ProbeTick.mono _ _ _ _ _ _ _ _ _
      | exact LeO.none _
      | refine LeO.ite ?_ ?_
      | refine LeO.bind ?_ (fun _ => ?_)
def laws_FnExactProbeTick.T8 : Bool × List (List Nat × List Nat) := (true, [([], []), ([0], [0]), ([], []), ([2, 1], [2]), ([1, 3, 3], [1, 3]), ([4], [4]), ([5], [5]), ([5], [5]), ([5], [5]), ([], []), ([9, 6, 4, 0, 1, 2, 3, 4, 5, 6, 9], [6, 9]), ([7, 10, 0, 1, 2, 3, 4, 5, 6, 7, 9, 10], [7]), ([8, 11, 0, 1, 2, 3, 4, 5, 6, 7, 8, 9, 10, 11], [8])])
def laws_FnExactProbeTick.B8 : List Nat := [0, 1, 0, 7, 15, 31, 63, 63, 63, 0, 639, 1791, 4095]
theorem laws_FnExactProbeTick.tab8 : rtab .any (opsOf Try.f14 8) = laws_FnExactProbeTick.T8 := by kernel_rfl
theorem laws_FnExactProbeTick.bits8 : waitsOk laws_FnExactProbeTick.T8.2 laws_FnExactProbeTick.B8 = true := by kernel_rfl
def laws_FnExactProbeTick.T31 : Bool × List (List Nat × List Nat) := (true, [([], []), ([0], [0]), ([], []), ([2, 1], [2]), ([1, 3, 3], [1, 3]), ([4], [4]), ([5], [5]), ([5], [5]), ([5], [5]), ([], []), ([9, 6, 4, 0, 1, 2, 3, 4, 5, 6, 9], [6, 9]), ([7, 10, 0, 1, 2, 3, 4, 5, 6, 7, 9, 10], [7]), ([8, 11, 0, 1, 2, 3, 4, 5, 6, 7, 8, 9, 10, 11], [8])])
def laws_FnExactProbeTick.B31 : List Nat := [0, 1, 0, 7, 15, 31, 63, 63, 63, 0, 639, 1791, 4095]
theorem laws_FnExactProbeTick.tab31 : rtab .any (opsOf Try.f14 31) = laws_FnExactProbeTick.T31 := by kernel_rfl
theorem laws_FnExactProbeTick.bits31 : waitsOk laws_FnExactProbeTick.T31.2 laws_FnExactProbeTick.B31 = true := by kernel_rfl
set_option maxHeartbeats 8000000 in
set_option maxRecDepth 100000 in
theorem laws_FnExactProbeTick.calls (k : Nat) (A0_0 : Option Addr) (c0_0 : Nat) (l0_0 : List Int) (a0_1 : Int) (a0_2 : Int) (a0_3 : Int) (a0_4 : Int) (a0_5 : Int) (a1_0 : Int) (A1_1 : Option Addr) (c1_1 : Nat) (l1_1 : List (S80)) (r : Bool) (w : World) (hr0_0 : Kd.C (Kd.int .i64) w A0_0 l0_0.length l0_0) (hc0_0 : l0_0.length ≤ c0_0) (hr1_1 : Kd.C k80 w A1_1 l1_1.length l1_1) (hc1_1 : l1_1.length ≤ c1_1) (h : laws_FnExactProbeTick.f k l0_0 a0_1 a0_2 a0_3 a0_4 a0_5 a1_0 l1_1 = some r) :
    Calls Try.prog 14 #[.agg #[.slice A0_0 l0_0.length c0_0, .int .i64 a0_1, .int .i64 a0_2, .int .i64 a0_3, .int .i64 a0_4, .int .i64 a0_5], .agg #[.int .i64 a1_0, .slice A1_1 l1_1.length c1_1]] w fun e w' => e = .returned (.bool r) ∧ Below w.heap.size w w' := by
  have hu88 := Try.underlying88
  have hu37 := Try.underlying37
  have hu90 := Try.underlying90
  have hu41 := Try.underlying41
  have HR0_0 := Aside0.mk hr0_0
  have HC0_0 := Aside0.mk hc0_0
  clear hr0_0 hc0_0
  have HR1_1 := Aside0.mk hr1_1
  have HC1_1 := Aside0.mk hc1_1
  clear hr1_1 hc1_1
  have HB := Aside0.mk (Below.refl w.heap.size w)
  have H : ((laws_szProber.f l0_0 a0_1 a0_2 a0_3 a0_4 a0_5 1048576).bind fun t362 => (if t362 < 0 then (some true) else ((laws_szTable.f a1_0 l1_1 t362).bind fun t363 => (if t363 < 0 then (some true) else ((laws_toProber.f k l0_0 a0_1 a0_2 a0_3 a0_4 a0_5).bind fun bt364 => ((laws_toTable.f k a1_0 l1_1).bind fun bt372 => ((spec_ProbeTick.f k bt364.1 bt364.2.1 bt364.2.2.1 bt364.2.2.2.1 bt364.2.2.2.2.1 bt364.2.2.2.2.2 bt372.1 bt372.2).bind fun bt376 => ((laws_toProber.f k l0_0 a0_1 a0_2 a0_3 a0_4 a0_5).bind fun bt387 => ((laws_toTable.f k a1_0 l1_1).bind fun bt396 => ((impl_ProbeTick.f k bt387.1 bt387.2.1 bt387.2.2.1 bt387.2.2.2.1 bt387.2.2.2.2.1 bt387.2.2.2.2.2 bt396.1 bt396.2).bind fun bt401 => ((laws_eqProber.f k bt401.1 bt401.2.1 bt401.2.2.1 bt401.2.2.2.1 bt401.2.2.2.2.1 bt401.2.2.2.2.2.1 bt376.1 bt376.2.1 bt376.2.2.1 bt376.2.2.2.1 bt376.2.2.2.2.1 bt376.2.2.2.2.2.1).bind fun t412 => (if t412 = true then (if bt401.2.2.2.2.2.2.1 = bt376.2.2.2.2.2.2.1 then (laws_FnExactProbeTick.j0 k bt376.2.2.2.2.2.2.1 bt376.2.2.2.2.2.2.2 bt401.2.2.2.2.2.2.1 bt401.2.2.2.2.2.2.2 (bt401.2.2.2.2.2.2.2 != bt376.2.2.2.2.2.2.2) l0_0 a0_1 a0_2 a0_3 a0_4 a0_5 a1_0 l1_1 bt376.1 bt376.2.1 bt376.2.2.1 bt376.2.2.2.1 bt376.2.2.2.2.1 bt376.2.2.2.2.2.1 bt387.1 bt387.2.1 bt387.2.2.1 bt387.2.2.2.1 bt387.2.2.2.2.1 bt387.2.2.2.2.2 bt396.1 bt396.2 bt401.1 bt401.2.1 bt401.2.2.1 bt401.2.2.2.1 bt401.2.2.2.2.1 bt401.2.2.2.2.2.1) else (laws_FnExactProbeTick.j0 k bt376.2.2.2.2.2.2.1 bt376.2.2.2.2.2.2.2 bt401.2.2.2.2.2.2.1 bt401.2.2.2.2.2.2.2 true l0_0 a0_1 a0_2 a0_3 a0_4 a0_5 a1_0 l1_1 bt376.1 bt376.2.1 bt376.2.2.1 bt376.2.2.2.1 bt376.2.2.2.2.1 bt376.2.2.2.2.2.1 bt387.1 bt387.2.1 bt387.2.2.1 bt387.2.2.2.1 bt387.2.2.2.2.1 bt387.2.2.2.2.2 bt396.1 bt396.2 bt401.1 bt401.2.1 bt401.2.2.1 bt401.2.2.2.1 bt401.2.2.2.2.1 bt401.2.2.2.2.2.1)) else (laws_FnExactProbeTick.j0 k bt376.2.2.2.2.2.2.1 bt376.2.2.2.2.2.2.2 bt401.2.2.2.2.2.2.1 bt401.2.2.2.2.2.2.2 true l0_0 a0_1 a0_2 a0_3 a0_4 a0_5 a1_0 l1_1 bt376.1 bt376.2.1 bt376.2.2.1 bt376.2.2.2.1 bt376.2.2.2.2.1 bt376.2.2.2.2.2.1 bt387.1 bt387.2.1 bt387.2.2.1 bt387.2.2.2.1 bt387.2.2.2.2.1 bt387.2.2.2.2.2 bt396.1 bt396.2 bt401.1 bt401.2.1 bt401.2.2.1 bt401.2.2.2.1 bt401.2.2.2.2.1 bt401.2.2.2.2.2.1))))))))))))) = some r := h
  clear h
  replace H := Option.bind_eq_some_iff.mp H
  obtain ⟨t362, A30, H⟩ := H
  have A3 := Aside0.mk A30
  clear A30
  go_enter Try.func14, Try.ntmps14
  replace H := Aside0.mk H
  go_wp2_with (first | ((with_reducible refine gate_dst (N := 2) rfl ?_); refine box_event ?hg (N := 2) ?hd (cs := #[.slice A0_0 l0_0.length c0_0, .int .i64 a0_1, .int .i64 a0_2, .int .i64 a0_3, .int .i64 a0_4, .int .i64 a0_5]) (t := 88) ?hr ?_; (case hd => rfl); (case hg => rfl); (case hr => first | (go_simp; done) | (go_simp; rfl)); intro gb360 hg w4 hbox hb; have n_ := an (below_step (by exact bel0) hb) (an (hbox) (an ((by rw [hg]; exact (below_size (by exact bel0)) : w.heap.size ≤ gb360)) (an ((by rw [hg]; exact (below_size (by exact bel0)) : w.heap.size ≤ gb360)) (trivial)))); clear HB; obtain ⟨HB, BK360, GW360, GE360, -⟩ := n_; clear hb hbox hg) | ((with_reducible refine gate_dst (N := 3) rfl ?_); refine box_event ?hg (N := 3) ?hd (cs := #[.int .i64 a1_0, .slice A1_1 l1_1.length c1_1]) (t := 37) ?hr ?_; (case hd => rfl); (case hg => rfl); (case hr => first | (go_simp; done) | (go_simp; rfl)); intro gb361 hg w5 hbox hb; have n_ := an (blk_below (blk_nw BK360.out) hb) (an (below_step (by exact bel0) hb) (an (hbox) (an ((by rw [hg]; exact (below_size (by exact bel0)) : w.heap.size ≤ gb361)) (an ((by rw [hg]; exact (below_size (by exact bel0)) : w.heap.size ≤ gb361)) (an ((by rw [hg]; exact Nat.ne_of_lt (blk_lt (blk_nw BK360.out)) : gb360 ≠ gb361)) (an ((by rw [hg]; exact Nat.ne_of_gt (blk_lt (blk_nw BK360.out)) : gb361 ≠ gb360)) (trivial))))))); clear BK360 HB; obtain ⟨BK360, HB, BK361, GW361, GE361, NB360_361, NB361_360, -⟩ := n_; clear hb hbox hg; have hnb6 := NB360_361.out; have hnc6 := NB361_360.out; obtain ⟨hcz7_0, hcz7_1, hcz7_2, hcz7_3, hcz7_4, hcz7_5⟩ := blkz6 BK360.out; have hfz7_0 := blkf BK360.out) | ((with_reducible refine gate_callee (f := 56) rfl ?_); refine goesL_ (some 22) rfl rfl Try.func56 (by kernel_rfl) rfl #[.agg #[.slice A0_0 l0_0.length c0_0, .int .i64 a0_1, .int .i64 a0_2, .int .i64 a0_3, .int .i64 a0_4, .int .i64 a0_5], .int .i64 1048576] rfl (by (try simp only [List.map_toArray, List.map_cons, List.map_nil]); first | done | rfl | (simp only [List.length_drop, List.length_take]; rfl)) ?_; (with_reducible refine (laws_szProber.calls _ _ l0_0 a0_1 a0_2 a0_3 a0_4 a0_5 1048576 t362 _ ?side1 ?side2 A3.out).mono ?_); (case side1 => repeat (first | exact (Kd.C_below HR0_0.out HB.out) | (with_reducible refine Kd.C_alloc ?_ _) | (with_reducible refine Kd.C_drewN ?_ _) | (with_reducible refine Kd.C_drew ?_))); (case side2 => exact HC0_0.out); rintro e w8 ⟨rfl, hb⟩; refine ⟨_, rfl, ?_⟩; have n_ := an (blk_below (blk_nw BK360.out) hb) (an (blk_below (blk_nw BK361.out) hb) (an (below_step (by exact bel0) hb) (trivial))); clear BK360 BK361 HB; obtain ⟨BK360, BK361, HB, -⟩ := n_; (try clear hb); (try clear hb2); (try clear hk); (try clear hi); refine Stop.out ?_))
  refine Stop.mk ?_
  replace H := H.out
  by_cases c9 : t362 < 0
  · rw [if_pos c9] at H
    have c9b0 : decide (t362 < 0) = true := decide_eq_true c9
    clear c9
    (try simp only [c9b0])
    obtain rfl := Option.some.inj H
    go_wp2
    go_ret
    exact ⟨by first | rfl | (simp [errW_none, errW_some] <;> rfl) | (simp [*, errW_none, errW_some] <;> rfl), by exact bel0⟩
  · rw [if_neg c9] at H
    have c9b0 : decide (t362 < 0) = false := decide_eq_false c9
    clear c9
    (try simp only [c9b0])
    replace H := Option.bind_eq_some_iff.mp H
    obtain ⟨t363, A100, H⟩ := H
    have A10 := Aside0.mk A100
    clear A100
    have hnb11 := NB361_360.out
    have hnc11 := NB360_361.out
    obtain ⟨hcz12_0, hcz12_1⟩ := blkz2 BK361.out
    have hfz12_0 := blkf BK361.out
    replace H := Aside0.mk H
    go_wp2_with (first | ((with_reducible refine gate_callee (f := 23) rfl ?_); refine goesL_ (some 27) rfl rfl Try.func23 (by kernel_rfl) rfl #[.agg #[.int .i64 a1_0, .slice A1_1 l1_1.length c1_1], .int .i64 t362] rfl (by (try simp only [List.map_toArray, List.map_cons, List.map_nil]); first | done | rfl | (simp only [List.length_drop, List.length_take]; rfl)) ?_; (with_reducible refine (laws_szTable.calls a1_0 _ _ l1_1 t362 t363 _ ?side1 ?side2 A10.out).mono ?_); (case side1 => repeat (first | exact (Kd.C_below HR1_1.out HB.out) | (with_reducible refine Kd.C_alloc ?_ _) | (with_reducible refine Kd.C_drewN ?_ _) | (with_reducible refine Kd.C_drew ?_))); (case side2 => exact HC1_1.out); rintro e w13 ⟨rfl, hb⟩; refine ⟨_, rfl, ?_⟩; have n_ := an (blk_below (blk_nw BK360.out) hb) (an (blk_below (blk_nw BK361.out) hb) (an (below_step (by exact bel0) hb) (trivial))); clear BK360 BK361 HB; obtain ⟨BK360, BK361, HB, -⟩ := n_; (try clear hb); (try clear hb2); (try clear hk); (try clear hi); refine Stop.out ?_))
    refine Stop.mk ?_
    replace H := H.out
    by_cases c14 : t363 < 0
    · rw [if_pos c14] at H
      have c14b0 : decide (t363 < 0) = true := decide_eq_true c14
      clear c14
      (try simp only [c14b0])
      obtain rfl := Option.some.inj H
      go_wp2
      go_ret
      exact ⟨by first | rfl | (simp [errW_none, errW_some] <;> rfl) | (simp [*, errW_none, errW_some] <;> rfl), by exact bel0⟩
    · rw [if_neg c14] at H
      have c14b0 : decide (t363 < 0) = false := decide_eq_false c14
      clear c14
      (try simp only [c14b0])
      replace H := Option.bind_eq_some_iff.mp H
      obtain ⟨⟨t364, t367, t368, t369, t370, t371⟩, A150, H⟩ := H
      replace H : ((laws_toTable.f k a1_0 l1_1).bind fun bt372 => ((spec_ProbeTick.f k t364 t367 t368 t369 t370 t371 bt372.1 bt372.2).bind fun bt376 => ((laws_toProber.f k l0_0 a0_1 a0_2 a0_3 a0_4 a0_5).bind fun bt387 => ((laws_toTable.f k a1_0 l1_1).bind fun bt396 => ((impl_ProbeTick.f k bt387.1 bt387.2.1 bt387.2.2.1 bt387.2.2.2.1 bt387.2.2.2.2.1 bt387.2.2.2.2.2 bt396.1 bt396.2).bind fun bt401 => ((laws_eqProber.f k bt401.1 bt401.2.1 bt401.2.2.1 bt401.2.2.2.1 bt401.2.2.2.2.1 bt401.2.2.2.2.2.1 bt376.1 bt376.2.1 bt376.2.2.1 bt376.2.2.2.1 bt376.2.2.2.2.1 bt376.2.2.2.2.2.1).bind fun t412 => (if t412 = true then (if bt401.2.2.2.2.2.2.1 = bt376.2.2.2.2.2.2.1 then (laws_FnExactProbeTick.j0 k bt376.2.2.2.2.2.2.1 bt376.2.2.2.2.2.2.2 bt401.2.2.2.2.2.2.1 bt401.2.2.2.2.2.2.2 (bt401.2.2.2.2.2.2.2 != bt376.2.2.2.2.2.2.2) l0_0 a0_1 a0_2 a0_3 a0_4 a0_5 a1_0 l1_1 bt376.1 bt376.2.1 bt376.2.2.1 bt376.2.2.2.1 bt376.2.2.2.2.1 bt376.2.2.2.2.2.1 bt387.1 bt387.2.1 bt387.2.2.1 bt387.2.2.2.1 bt387.2.2.2.2.1 bt387.2.2.2.2.2 bt396.1 bt396.2 bt401.1 bt401.2.1 bt401.2.2.1 bt401.2.2.2.1 bt401.2.2.2.2.1 bt401.2.2.2.2.2.1) else (laws_FnExactProbeTick.j0 k bt376.2.2.2.2.2.2.1 bt376.2.2.2.2.2.2.2 bt401.2.2.2.2.2.2.1 bt401.2.2.2.2.2.2.2 true l0_0 a0_1 a0_2 a0_3 a0_4 a0_5 a1_0 l1_1 bt376.1 bt376.2.1 bt376.2.2.1 bt376.2.2.2.1 bt376.2.2.2.2.1 bt376.2.2.2.2.2.1 bt387.1 bt387.2.1 bt387.2.2.1 bt387.2.2.2.1 bt387.2.2.2.2.1 bt387.2.2.2.2.2 bt396.1 bt396.2 bt401.1 bt401.2.1 bt401.2.2.1 bt401.2.2.2.1 bt401.2.2.2.2.1 bt401.2.2.2.2.2.1)) else (laws_FnExactProbeTick.j0 k bt376.2.2.2.2.2.2.1 bt376.2.2.2.2.2.2.2 bt401.2.2.2.2.2.2.1 bt401.2.2.2.2.2.2.2 true l0_0 a0_1 a0_2 a0_3 a0_4 a0_5 a1_0 l1_1 bt376.1 bt376.2.1 bt376.2.2.1 bt376.2.2.2.1 bt376.2.2.2.2.1 bt376.2.2.2.2.2.1 bt387.1 bt387.2.1 bt387.2.2.1 bt387.2.2.2.1 bt387.2.2.2.2.1 bt387.2.2.2.2.2 bt396.1 bt396.2 bt401.1 bt401.2.1 bt401.2.2.1 bt401.2.2.2.1 bt401.2.2.2.2.1 bt401.2.2.2.2.2.1)))))))) = some r := H
      have A15 := Aside0.mk A150
      clear A150
      replace H := Option.bind_eq_some_iff.mp H
      obtain ⟨⟨t372, t373⟩, A160, H⟩ := H
      replace H : ((spec_ProbeTick.f k t364 t367 t368 t369 t370 t371 t372 t373).bind fun bt376 => ((laws_toProber.f k l0_0 a0_1 a0_2 a0_3 a0_4 a0_5).bind fun bt387 => ((laws_toTable.f k a1_0 l1_1).bind fun bt396 => ((impl_ProbeTick.f k bt387.1 bt387.2.1 bt387.2.2.1 bt387.2.2.2.1 bt387.2.2.2.2.1 bt387.2.2.2.2.2 bt396.1 bt396.2).bind fun bt401 => ((laws_eqProber.f k bt401.1 bt401.2.1 bt401.2.2.1 bt401.2.2.2.1 bt401.2.2.2.2.1 bt401.2.2.2.2.2.1 bt376.1 bt376.2.1 bt376.2.2.1 bt376.2.2.2.1 bt376.2.2.2.2.1 bt376.2.2.2.2.2.1).bind fun t412 => (if t412 = true then (if bt401.2.2.2.2.2.2.1 = bt376.2.2.2.2.2.2.1 then (laws_FnExactProbeTick.j0 k bt376.2.2.2.2.2.2.1 bt376.2.2.2.2.2.2.2 bt401.2.2.2.2.2.2.1 bt401.2.2.2.2.2.2.2 (bt401.2.2.2.2.2.2.2 != bt376.2.2.2.2.2.2.2) l0_0 a0_1 a0_2 a0_3 a0_4 a0_5 a1_0 l1_1 bt376.1 bt376.2.1 bt376.2.2.1 bt376.2.2.2.1 bt376.2.2.2.2.1 bt376.2.2.2.2.2.1 bt387.1 bt387.2.1 bt387.2.2.1 bt387.2.2.2.1 bt387.2.2.2.2.1 bt387.2.2.2.2.2 bt396.1 bt396.2 bt401.1 bt401.2.1 bt401.2.2.1 bt401.2.2.2.1 bt401.2.2.2.2.1 bt401.2.2.2.2.2.1) else (laws_FnExactProbeTick.j0 k bt376.2.2.2.2.2.2.1 bt376.2.2.2.2.2.2.2 bt401.2.2.2.2.2.2.1 bt401.2.2.2.2.2.2.2 true l0_0 a0_1 a0_2 a0_3 a0_4 a0_5 a1_0 l1_1 bt376.1 bt376.2.1 bt376.2.2.1 bt376.2.2.2.1 bt376.2.2.2.2.1 bt376.2.2.2.2.2.1 bt387.1 bt387.2.1 bt387.2.2.1 bt387.2.2.2.1 bt387.2.2.2.2.1 bt387.2.2.2.2.2 bt396.1 bt396.2 bt401.1 bt401.2.1 bt401.2.2.1 bt401.2.2.2.1 bt401.2.2.2.2.1 bt401.2.2.2.2.2.1)) else (laws_FnExactProbeTick.j0 k bt376.2.2.2.2.2.2.1 bt376.2.2.2.2.2.2.2 bt401.2.2.2.2.2.2.1 bt401.2.2.2.2.2.2.2 true l0_0 a0_1 a0_2 a0_3 a0_4 a0_5 a1_0 l1_1 bt376.1 bt376.2.1 bt376.2.2.1 bt376.2.2.2.1 bt376.2.2.2.2.1 bt376.2.2.2.2.2.1 bt387.1 bt387.2.1 bt387.2.2.1 bt387.2.2.2.1 bt387.2.2.2.2.1 bt387.2.2.2.2.2 bt396.1 bt396.2 bt401.1 bt401.2.1 bt401.2.2.1 bt401.2.2.2.1 bt401.2.2.2.2.1 bt401.2.2.2.2.2.1))))))) = some r := H
      have A16 := Aside0.mk A160
      clear A160
      replace H := Option.bind_eq_some_iff.mp H
      obtain ⟨⟨t376, t379, t380, t381, t382, t383, t384, t385⟩, A170, H⟩ := H
      replace H : ((laws_toProber.f k l0_0 a0_1 a0_2 a0_3 a0_4 a0_5).bind fun bt387 => ((laws_toTable.f k a1_0 l1_1).bind fun bt396 => ((impl_ProbeTick.f k bt387.1 bt387.2.1 bt387.2.2.1 bt387.2.2.2.1 bt387.2.2.2.2.1 bt387.2.2.2.2.2 bt396.1 bt396.2).bind fun bt401 => ((laws_eqProber.f k bt401.1 bt401.2.1 bt401.2.2.1 bt401.2.2.2.1 bt401.2.2.2.2.1 bt401.2.2.2.2.2.1 t376 t379 t380 t381 t382 t383).bind fun t412 => (if t412 = true then (if bt401.2.2.2.2.2.2.1 = t384 then (laws_FnExactProbeTick.j0 k t384 t385 bt401.2.2.2.2.2.2.1 bt401.2.2.2.2.2.2.2 (bt401.2.2.2.2.2.2.2 != t385) l0_0 a0_1 a0_2 a0_3 a0_4 a0_5 a1_0 l1_1 t376 t379 t380 t381 t382 t383 bt387.1 bt387.2.1 bt387.2.2.1 bt387.2.2.2.1 bt387.2.2.2.2.1 bt387.2.2.2.2.2 bt396.1 bt396.2 bt401.1 bt401.2.1 bt401.2.2.1 bt401.2.2.2.1 bt401.2.2.2.2.1 bt401.2.2.2.2.2.1) else (laws_FnExactProbeTick.j0 k t384 t385 bt401.2.2.2.2.2.2.1 bt401.2.2.2.2.2.2.2 true l0_0 a0_1 a0_2 a0_3 a0_4 a0_5 a1_0 l1_1 t376 t379 t380 t381 t382 t383 bt387.1 bt387.2.1 bt387.2.2.1 bt387.2.2.2.1 bt387.2.2.2.2.1 bt387.2.2.2.2.2 bt396.1 bt396.2 bt401.1 bt401.2.1 bt401.2.2.1 bt401.2.2.2.1 bt401.2.2.2.2.1 bt401.2.2.2.2.2.1)) else (laws_FnExactProbeTick.j0 k t384 t385 bt401.2.2.2.2.2.2.1 bt401.2.2.2.2.2.2.2 true l0_0 a0_1 a0_2 a0_3 a0_4 a0_5 a1_0 l1_1 t376 t379 t380 t381 t382 t383 bt387.1 bt387.2.1 bt387.2.2.1 bt387.2.2.2.1 bt387.2.2.2.2.1 bt387.2.2.2.2.2 bt396.1 bt396.2 bt401.1 bt401.2.1 bt401.2.2.1 bt401.2.2.2.1 bt401.2.2.2.2.1 bt401.2.2.2.2.2.1)))))) = some r := H
      have A17 := Aside0.mk A170
      clear A170
      replace H := Option.bind_eq_some_iff.mp H
      obtain ⟨⟨t387, t390, t391, t392, t393, t394⟩, A180, H⟩ := H
      replace H : ((laws_toTable.f k a1_0 l1_1).bind fun bt396 => ((impl_ProbeTick.f k t387 t390 t391 t392 t393 t394 bt396.1 bt396.2).bind fun bt401 => ((laws_eqProber.f k bt401.1 bt401.2.1 bt401.2.2.1 bt401.2.2.2.1 bt401.2.2.2.2.1 bt401.2.2.2.2.2.1 t376 t379 t380 t381 t382 t383).bind fun t412 => (if t412 = true then (if bt401.2.2.2.2.2.2.1 = t384 then (laws_FnExactProbeTick.j0 k t384 t385 bt401.2.2.2.2.2.2.1 bt401.2.2.2.2.2.2.2 (bt401.2.2.2.2.2.2.2 != t385) l0_0 a0_1 a0_2 a0_3 a0_4 a0_5 a1_0 l1_1 t376 t379 t380 t381 t382 t383 t387 t390 t391 t392 t393 t394 bt396.1 bt396.2 bt401.1 bt401.2.1 bt401.2.2.1 bt401.2.2.2.1 bt401.2.2.2.2.1 bt401.2.2.2.2.2.1) else (laws_FnExactProbeTick.j0 k t384 t385 bt401.2.2.2.2.2.2.1 bt401.2.2.2.2.2.2.2 true l0_0 a0_1 a0_2 a0_3 a0_4 a0_5 a1_0 l1_1 t376 t379 t380 t381 t382 t383 t387 t390 t391 t392 t393 t394 bt396.1 bt396.2 bt401.1 bt401.2.1 bt401.2.2.1 bt401.2.2.2.1 bt401.2.2.2.2.1 bt401.2.2.2.2.2.1)) else (laws_FnExactProbeTick.j0 k t384 t385 bt401.2.2.2.2.2.2.1 bt401.2.2.2.2.2.2.2 true l0_0 a0_1 a0_2 a0_3 a0_4 a0_5 a1_0 l1_1 t376 t379 t380 t381 t382 t383 t387 t390 t391 t392 t393 t394 bt396.1 bt396.2 bt401.1 bt401.2.1 bt401.2.2.1 bt401.2.2.2.1 bt401.2.2.2.2.1 bt401.2.2.2.2.2.1))))) = some r := H
      have A18 := Aside0.mk A180
      clear A180
      replace H := Option.bind_eq_some_iff.mp H
      obtain ⟨⟨t396, t397⟩, A190, H⟩ := H
      replace H : ((impl_ProbeTick.f k t387 t390 t391 t392 t393 t394 t396 t397).bind fun bt401 => ((laws_eqProber.f k bt401.1 bt401.2.1 bt401.2.2.1 bt401.2.2.2.1 bt401.2.2.2.2.1 bt401.2.2.2.2.2.1 t376 t379 t380 t381 t382 t383).bind fun t412 => (if t412 = true then (if bt401.2.2.2.2.2.2.1 = t384 then (laws_FnExactProbeTick.j0 k t384 t385 bt401.2.2.2.2.2.2.1 bt401.2.2.2.2.2.2.2 (bt401.2.2.2.2.2.2.2 != t385) l0_0 a0_1 a0_2 a0_3 a0_4 a0_5 a1_0 l1_1 t376 t379 t380 t381 t382 t383 t387 t390 t391 t392 t393 t394 t396 t397 bt401.1 bt401.2.1 bt401.2.2.1 bt401.2.2.2.1 bt401.2.2.2.2.1 bt401.2.2.2.2.2.1) else (laws_FnExactProbeTick.j0 k t384 t385 bt401.2.2.2.2.2.2.1 bt401.2.2.2.2.2.2.2 true l0_0 a0_1 a0_2 a0_3 a0_4 a0_5 a1_0 l1_1 t376 t379 t380 t381 t382 t383 t387 t390 t391 t392 t393 t394 t396 t397 bt401.1 bt401.2.1 bt401.2.2.1 bt401.2.2.2.1 bt401.2.2.2.2.1 bt401.2.2.2.2.2.1)) else (laws_FnExactProbeTick.j0 k t384 t385 bt401.2.2.2.2.2.2.1 bt401.2.2.2.2.2.2.2 true l0_0 a0_1 a0_2 a0_3 a0_4 a0_5 a1_0 l1_1 t376 t379 t380 t381 t382 t383 t387 t390 t391 t392 t393 t394 t396 t397 bt401.1 bt401.2.1 bt401.2.2.1 bt401.2.2.2.1 bt401.2.2.2.2.1 bt401.2.2.2.2.2.1)))) = some r := H
      have A19 := Aside0.mk A190
      clear A190
      replace H := Option.bind_eq_some_iff.mp H
      obtain ⟨⟨t401, t404, t405, t406, t407, t408, t409, t410⟩, A200, H⟩ := H
      replace H : ((laws_eqProber.f k t401 t404 t405 t406 t407 t408 t376 t379 t380 t381 t382 t383).bind fun t412 => (if t412 = true then (if t409 = t384 then (laws_FnExactProbeTick.j0 k t384 t385 t409 t410 (t410 != t385) l0_0 a0_1 a0_2 a0_3 a0_4 a0_5 a1_0 l1_1 t376 t379 t380 t381 t382 t383 t387 t390 t391 t392 t393 t394 t396 t397 t401 t404 t405 t406 t407 t408) else (laws_FnExactProbeTick.j0 k t384 t385 t409 t410 true l0_0 a0_1 a0_2 a0_3 a0_4 a0_5 a1_0 l1_1 t376 t379 t380 t381 t382 t383 t387 t390 t391 t392 t393 t394 t396 t397 t401 t404 t405 t406 t407 t408)) else (laws_FnExactProbeTick.j0 k t384 t385 t409 t410 true l0_0 a0_1 a0_2 a0_3 a0_4 a0_5 a1_0 l1_1 t376 t379 t380 t381 t382 t383 t387 t390 t391 t392 t393 t394 t396 t397 t401 t404 t405 t406 t407 t408))) = some r := H
      have A20 := Aside0.mk A200
      clear A200
      have HC21 := Aside0.mk H
      clear H
      try go_wp2
      have n_ := an (blk_drew BK360.out) (an (blk_drew BK361.out) (an (below_drew1 HB.out) (trivial)))
      clear BK360 BK361 HB
      obtain ⟨BK360, BK361, HB, -⟩ := n_
      refine start_ (n := 13) (S := fun w' => w'.cell? ⟨gb360, 0, none⟩ = some (.slice A0_0 l0_0.length c0_0) ∧ w'.cell? ⟨gb360, 1, none⟩ = some (.int .i64 a0_1) ∧ w'.cell? ⟨gb360, 2, none⟩ = some (.int .i64 a0_2) ∧ w'.cell? ⟨gb360, 3, none⟩ = some (.int .i64 a0_3) ∧ w'.cell? ⟨gb360, 4, none⟩ = some (.int .i64 a0_4) ∧ w'.cell? ⟨gb360, 5, none⟩ = some (.int .i64 a0_5) ∧ w'.cell? ⟨gb361, 0, none⟩ = some (.int .i64 a1_0) ∧ w'.cell? ⟨gb361, 1, none⟩ = some (.slice A1_1 l1_1.length c1_1)) (ds := []) #[false, false, false, false, false, false, false, false, false, false, false, false, false] (by kernel_rfl) rfl rfl ⟨(blk_cell BK360.out 0).trans rfl, (blk_cell BK360.out 1).trans rfl, (blk_cell BK360.out 2).trans rfl, (blk_cell BK360.out 3).trans rfl, (blk_cell BK360.out 4).trans rfl, (blk_cell BK360.out 5).trans rfl, (blk_cell BK361.out 0).trans rfl, (blk_cell BK361.out 1).trans rfl⟩ (fun hHeld => ?_); refine with_tabW laws_FnExactProbeTick.tab8 laws_FnExactProbeTick.bits8 (fun HT_ HW_ => ?_)
      generalize w13.drew = w22 at BK360 BK361 HB hHeld ⊢
      refine take_ (i := 0) (N := some 31) (v := ?_) (a' := ?_) #[true, false, false, false, false, false, false, false, false, false, false, false, false] rfl rfl (take_ofW HT_.out HW_.out (by kernel_rfl)) (fun _ _ _ h => h) (Or.inl ⟨by rfl, ?_⟩) hHeld ?_ ?_
      rotate_left
      · rintro w' ⟨s0, s1, s2, s3, s4, s5, s6, s7⟩
        go_simp
        with_reducible rfl
      rotate_left; · simp only [Act.put, List.setIfInBounds_toArray, List.set_cons_zero, List.set_cons_succ, i64_w, i32_w]; rfl
      refine take_ (i := 2) (N := some 33) (v := ?_) (a' := ?_) #[true, false, true, false, false, false, false, false, false, false, false, false, false] rfl rfl (take_ofW HT_.out HW_.out (by kernel_rfl)) (fun _ _ _ h => h) (Or.inl ⟨by rfl, ?_⟩) hHeld ?_ ?_
      rotate_left
      · rintro w' ⟨s0, s1, s2, s3, s4, s5, s6, s7⟩
        go_simp
        with_reducible rfl
      rotate_left; · simp only [Act.put, List.setIfInBounds_toArray, List.set_cons_zero, List.set_cons_succ, i64_w, i32_w]; rfl
      refine join_ (σ := Value × Value × Value × Nat) 3 #[true, true, true, true, true, true, true, true, true, true, false, false, false] (fun s_ => [(32, .agg #[s_.1, .int .i64 t367, .int .i64 t368, .int .i64 t369, .int .i64 t370, .int .i64 t371]), (34, .agg #[.int .i64 t372, s_.2.1]), (35, .tuple #[.agg #[s_.2.2.1, .int .i64 t379, .int .i64 t380, .int .i64 t381, .int .i64 t382, .int .i64 t383], .int .i64 t384, .int .i64 t385]), (6, .pointer (some ⟨s_.2.2.2, 0, none⟩)), (30, .tuple #[.agg #[s_.2.2.1, .int .i64 t379, .int .i64 t380, .int .i64 t381, .int .i64 t382, .int .i64 t383], .int .i64 t384, .int .i64 t385]), (36, .agg #[s_.2.2.1, .int .i64 t379, .int .i64 t380, .int .i64 t381, .int .i64 t382, .int .i64 t383]), (37, .int .i64 t384), (38, .int .i64 t385)]) (fun s_ w' => (w'.cell? ⟨gb360, 0, none⟩ = some (.slice A0_0 l0_0.length c0_0) ∧ w'.cell? ⟨gb360, 1, none⟩ = some (.int .i64 a0_1) ∧ w'.cell? ⟨gb360, 2, none⟩ = some (.int .i64 a0_2) ∧ w'.cell? ⟨gb360, 3, none⟩ = some (.int .i64 a0_3) ∧ w'.cell? ⟨gb360, 4, none⟩ = some (.int .i64 a0_4) ∧ w'.cell? ⟨gb360, 5, none⟩ = some (.int .i64 a0_5) ∧ w'.cell? ⟨gb361, 0, none⟩ = some (.int .i64 a1_0) ∧ w'.cell? ⟨gb361, 1, none⟩ = some (.slice A1_1 l1_1.length c1_1)) ∧ (Kd.R (Kd.int .i64) 3 w' w.heap.size (fun k_ => some k_ ≠ (s_.2.2.1 : Value).ownBlock) s_.1 t364) ∧ (Kd.R k82 82 w' w.heap.size (fun _ => True) s_.2.1 t373) ∧ (Kd.R (Kd.int .i64) 3 w' w.heap.size (fun k_ => some k_ ≠ (s_.1 : Value).ownBlock) s_.2.2.1 t376) ∧ (w'.heap[gb360]? = some (.cells #[.slice A0_0 l0_0.length c0_0, .int .i64 a0_1, .int .i64 a0_2, .int .i64 a0_3, .int .i64 a0_4, .int .i64 a0_5] 88 (0, 0))) ∧ (w'.heap[gb361]? = some (.cells #[.int .i64 a1_0, .slice A1_1 l1_1.length c1_1] 37 (0, 0))) ∧ (w'.heap[s_.2.2.2]? = some (.cells #[.slice none 0 0, .int .i64 0, .int .i64 0, .int .i64 0, .int .i64 0, .int .i64 0] 90 (0, 0))) ∧ (w.heap.size ≤ s_.2.2.2) ∧ (w.heap.size ≤ s_.2.2.2) ∧ (gb360 ≠ s_.2.2.2) ∧ (s_.2.2.2 ≠ gb360) ∧ (gb361 ≠ s_.2.2.2) ∧ (s_.2.2.2 ≠ gb361) ∧ (Below w.heap.size w w')) ?_ ?_
      rotate_left
      · intro hCont
        refine two_ (i := 1) (j := 9) (Ni := some 32) (Nj := some 6) #[true, true, true, false, false, false, false, false, false, false, false, false, false] #[true, false, true, false, false, false, false, false, false, true, false, false, false] rfl rfl rfl rfl (two_of HT_.out (by kernel_rfl)) (by decide) (by decide) (fun K hK => ?_) (fun K hK => ?_)
        · skip
          refine goes_ Try.func58 (by kernel_rfl) rfl #[.agg #[.slice A0_0 l0_0.length c0_0, .int .i64 a0_1, .int .i64 a0_2, .int .i64 a0_3, .int .i64 a0_4, .int .i64 a0_5]] (by rfl) rfl rfl (by (try simp only [List.map_toArray, List.map_cons, List.map_nil]); first | done | rfl | (simp only [List.length_drop, List.length_take]; rfl)) ?_
          with_reducible refine (laws_toProber.calls k _ _ l0_0 a0_1 a0_2 a0_3 a0_4 a0_5 t364 t367 t368 t369 t370 t371 _ ?side1 ?side2 A15.out).mono ?_
          (case side1 => repeat (first | exact (Kd.C_below HR0_0.out HB.out) | (with_reducible refine Kd.C_alloc ?_ _) | (with_reducible refine Kd.C_drewN ?_ _) | (with_reducible refine Kd.C_drew ?_)))
          (case side2 => exact HC0_0.out)
          rintro e w23 ⟨v365, rfl, ho0, hb⟩
          refine ⟨_, rfl, ?_⟩
          have n_ := an (Kd.R_lower ho0 (below_size (by exact bel0))) (an (blk_below (blk_nw BK360.out) hb) (an (blk_below (blk_nw BK361.out) hb) (an (below_step (by exact bel0) hb) (trivial))))
          clear BK360 BK361 HB
          obtain ⟨HO366, BK360, BK361, HB, -⟩ := n_
          (try clear hb)
          (try clear hb2)
          (try clear hk)
          (try clear hi)
          (try clear ho0)
          refine hK.out _ _ ⟨(blk_cell BK360.out 0).trans rfl, (blk_cell BK360.out 1).trans rfl, (blk_cell BK360.out 2).trans rfl, (blk_cell BK360.out 3).trans rfl, (blk_cell BK360.out 4).trans rfl, (blk_cell BK360.out 5).trans rfl, (blk_cell BK361.out 0).trans rfl, (blk_cell BK361.out 1).trans rfl⟩ (fun hHeld => ?_)
          clear hK K
          refine norm_ (a' := ?_) ?_ ?_
          rotate_left
          · show Act.put _ (some 32) _ = _
            simp only [Act.put, List.setIfInBounds_toArray, List.set_cons_zero, List.set_cons_succ, i64_w, i32_w]
            rfl
          refine two_ (i := 3) (j := 9) (Ni := some 34) (Nj := some 6) #[true, true, true, true, false, false, false, false, false, false, false, false, false] #[true, true, true, false, false, false, false, false, false, true, false, false, false] rfl rfl rfl rfl (two_of HT_.out (by kernel_rfl)) (by decide) (by decide) (fun K hK => ?_) (fun K hK => ?_)
          · skip
            refine goes_ Try.func25 (by kernel_rfl) rfl #[.agg #[.int .i64 a1_0, .slice A1_1 l1_1.length c1_1]] (by rfl) rfl rfl (by (try simp only [List.map_toArray, List.map_cons, List.map_nil]); first | done | rfl | (simp only [List.length_drop, List.length_take]; rfl)) ?_
            with_reducible refine (laws_toTable.calls k a1_0 _ _ l1_1 t372 t373 _ ?side1 ?side2 A16.out).mono ?_
            (case side1 => repeat (first | exact (Kd.C_below HR1_1.out HB.out) | (with_reducible refine Kd.C_alloc ?_ _) | (with_reducible refine Kd.C_drewN ?_ _) | (with_reducible refine Kd.C_drew ?_)))
            (case side2 => exact HC1_1.out)
            rintro e w24 ⟨v374, rfl, ho0, hb⟩
            refine ⟨_, rfl, ?_⟩
            have n_ := an (Kd.R_below (by exact Kd.R_nw HO366.out) hb) (an (Kd.R_lower ho0 (below_size (by exact bel0))) (an (blk_below (blk_nw BK360.out) hb) (an (blk_below (blk_nw BK361.out) hb) (an (below_step (by exact bel0) hb) (trivial)))))
            clear HO366 BK360 BK361 HB
            obtain ⟨HO366, HO375, BK360, BK361, HB, -⟩ := n_
            (try clear hb)
            (try clear hb2)
            (try clear hk)
            (try clear hi)
            (try clear ho0)
            obtain ⟨Ao25, co25, eo25⟩ := Kd.R_slice HO366.out
            (first | subst eo25 | (injection eo25 with f1_ f2_ f3_; have f4_ := f1_.symm; have f5_ := f3_.symm; clear f1_ f2_ f3_; subst f4_; subst f5_))
            obtain ⟨Ao26, co26, eo26⟩ := Kd.R_slice HO375.out
            (first | subst eo26 | (injection eo26 with f1_ f2_ f3_; have f4_ := f1_.symm; have f5_ := f3_.symm; clear f1_ f2_ f3_; subst f4_; subst f5_))
            refine hK.out _ _ ⟨(blk_cell BK360.out 0).trans rfl, (blk_cell BK360.out 1).trans rfl, (blk_cell BK360.out 2).trans rfl, (blk_cell BK360.out 3).trans rfl, (blk_cell BK360.out 4).trans rfl, (blk_cell BK360.out 5).trans rfl, (blk_cell BK361.out 0).trans rfl, (blk_cell BK361.out 1).trans rfl⟩ (fun hHeld => ?_)
            clear hK K
            refine norm_ (a' := ?_) ?_ ?_
            rotate_left
            · show Act.put _ (some 34) _ = _
              simp only [Act.put, List.setIfInBounds_toArray, List.set_cons_zero, List.set_cons_succ, i64_w, i32_w]
              rfl
            refine two_ (i := 4) (j := 9) (Ni := some 35) (Nj := some 6) #[true, true, true, true, true, false, false, false, false, false, false, false, false] #[true, true, true, true, false, false, false, false, false, true, false, false, false] rfl rfl rfl rfl (two_of HT_.out (by kernel_rfl)) (by decide) (by decide) (fun K hK => ?_) (fun K hK => ?_)
            · skip
              refine goes_ Try.func65 (by kernel_rfl) rfl #[.agg #[.slice Ao25 t364.length co25, .int .i64 t367, .int .i64 t368, .int .i64 t369, .int .i64 t370, .int .i64 t371], .agg #[.int .i64 t372, .slice Ao26 t373.length co26]] (by rfl) rfl rfl (by (try simp only [List.map_toArray, List.map_cons, List.map_nil]); first | done | rfl | (simp only [List.length_drop, List.length_take]; rfl)) ?_
              with_reducible refine (spec_ProbeTick.calls k _ _ t364 t367 t368 t369 t370 t371 t372 _ _ t373 t376 t379 t380 t381 t382 t383 t384 t385 _ ?side1 ?side2 ?side3 ?side4 A17.out).mono ?_
              (case side1 => repeat (first | exact (Kd.R_reads' HO366.out).2.2 | (with_reducible refine Kd.C_alloc ?_ _) | (with_reducible refine Kd.C_drewN ?_ _) | (with_reducible refine Kd.C_drew ?_)))
              (case side2 => exact (Kd.R_reads' HO366.out).2.1)
              (case side3 => repeat (first | exact (Kd.R_reads' HO375.out).2.2 | (with_reducible refine Kd.C_alloc ?_ _) | (with_reducible refine Kd.C_drewN ?_ _) | (with_reducible refine Kd.C_drew ?_)))
              (case side4 => exact (Kd.R_reads' HO375.out).2.1)
              rintro e w27 ⟨v377, rfl, ho0, hb⟩
              refine ⟨_, rfl, ?_⟩
              have n_ := an (Kd.R_elder' (by exact Kd.R_nw HO366.out) (Kd.R_base ho0) hb) (an (Kd.R_below (by exact Kd.R_nw HO375.out) hb) (an (Kd.R_lower (Kd.R_new' ho0 (Kd.R_lt (by exact Kd.R_nw HO366.out))) (below_size (by exact bel0))) (an (blk_below (blk_nw BK360.out) hb) (an (blk_below (blk_nw BK361.out) hb) (an (below_step (by exact bel0) hb) (trivial))))))
              clear HO366 HO375 BK360 BK361 HB
              obtain ⟨HO366, HO375, HO378, BK360, BK361, HB, -⟩ := n_
              (try clear hb)
              (try clear hb2)
              (try clear hk)
              (try clear hi)
              (try clear ho0)
              refine hK.out _ _ ⟨(blk_cell BK360.out 0).trans rfl, (blk_cell BK360.out 1).trans rfl, (blk_cell BK360.out 2).trans rfl, (blk_cell BK360.out 3).trans rfl, (blk_cell BK360.out 4).trans rfl, (blk_cell BK360.out 5).trans rfl, (blk_cell BK361.out 0).trans rfl, (blk_cell BK361.out 1).trans rfl⟩ (fun hHeld => ?_)
              clear hK K
              refine norm_ (a' := ?_) ?_ ?_
              rotate_left
              · show Act.put _ (some 35) _ = _
                simp only [Act.put, List.setIfInBounds_toArray, List.set_cons_zero, List.set_cons_succ, i64_w, i32_w]
                rfl
              refine pure_ (i := 5) (N := some 30) (v := ?_) (a' := ?_) #[true, true, true, true, true, true, false, false, false, false, false, false, false] rfl rfl (any_of HT_.out (by kernel_rfl)) (fun _ _ _ h => h) (Or.inl ⟨by rfl, ?_⟩) ?_ ?_
              rotate_left; · intro w'; go_simp; with_reducible rfl
              rotate_left; · simp only [Act.put, List.setIfInBounds_toArray, List.set_cons_zero, List.set_cons_succ, i64_w, i32_w]; rfl
              refine pure_ (i := 6) (N := some 36) (v := ?_) (a' := ?_) #[true, true, true, true, true, true, true, false, false, false, false, false, false] rfl rfl (any_of HT_.out (by kernel_rfl)) (fun _ _ _ h => h) (Or.inl ⟨by rfl, ?_⟩) ?_ ?_
              rotate_left; · intro w'; go_simp; with_reducible rfl
              rotate_left; · simp only [Act.put, List.setIfInBounds_toArray, List.set_cons_zero, List.set_cons_succ, i64_w, i32_w]; rfl
              refine pure_ (i := 7) (N := some 37) (v := ?_) (a' := ?_) #[true, true, true, true, true, true, true, true, false, false, false, false, false] rfl rfl (any_of HT_.out (by kernel_rfl)) (fun _ _ _ h => h) (Or.inl ⟨by rfl, ?_⟩) ?_ ?_
              rotate_left; · intro w'; go_simp; with_reducible rfl
              rotate_left; · simp only [Act.put, List.setIfInBounds_toArray, List.set_cons_zero, List.set_cons_succ, i64_w, i32_w]; rfl
              refine pure_ (i := 8) (N := some 38) (v := ?_) (a' := ?_) #[true, true, true, true, true, true, true, true, true, false, false, false, false] rfl rfl (any_of HT_.out (by kernel_rfl)) (fun _ _ _ h => h) (Or.inl ⟨by rfl, ?_⟩) ?_ ?_
              rotate_left; · intro w'; go_simp; with_reducible rfl
              rotate_left; · simp only [Act.put, List.setIfInBounds_toArray, List.set_cons_zero, List.set_cons_succ, i64_w, i32_w]; rfl
              refine one_ (i := 9) (N := some 6) #[true, true, true, true, true, true, true, true, true, true, false, false, false] rfl rfl (one_of HT_.out (by kernel_rfl)) (by decide) (fun K hK => ?_)
              refine box_step ?hg (N := 6) ?hd (cs := #[.slice none 0 0, .int .i64 0, .int .i64 0, .int .i64 0, .int .i64 0, .int .i64 0]) (t := 90) ?hr ?_; (case hd => rfl); (case hg => rfl); (case hr => first | (go_simp; done) | (go_simp; rfl))
              intro gb386 hg w28 hbox hb
              have n_ := an (Kd.R_below (by exact Kd.R_nw HO366.out) hb) (an (Kd.R_below (by exact Kd.R_nw HO375.out) hb) (an (Kd.R_below (by exact Kd.R_nw HO378.out) hb) (an (blk_below (blk_nw BK360.out) hb) (an (blk_below (blk_nw BK361.out) hb) (an (below_step (by exact bel0) hb) (an (hbox) (an ((by rw [hg]; exact (below_size (by exact bel0)) : w.heap.size ≤ gb386)) (an ((by rw [hg]; exact (below_size (by exact bel0)) : w.heap.size ≤ gb386)) (an ((by rw [hg]; exact Nat.ne_of_lt (blk_lt (blk_nw BK360.out)) : gb360 ≠ gb386)) (an ((by rw [hg]; exact Nat.ne_of_gt (blk_lt (blk_nw BK360.out)) : gb386 ≠ gb360)) (an ((by rw [hg]; exact Nat.ne_of_lt (blk_lt (blk_nw BK361.out)) : gb361 ≠ gb386)) (an ((by rw [hg]; exact Nat.ne_of_gt (blk_lt (blk_nw BK361.out)) : gb386 ≠ gb361)) (trivial)))))))))))))
              clear HO366 HO375 HO378 BK360 BK361 HB
              obtain ⟨HO366, HO375, HO378, BK360, BK361, HB, BK386, GW386, GE386, NB360_386, NB386_360, NB361_386, NB386_361, -⟩ := n_
              clear hb hbox hg
              refine hK.out _ _ ⟨(blk_cell BK360.out 0).trans rfl, (blk_cell BK360.out 1).trans rfl, (blk_cell BK360.out 2).trans rfl, (blk_cell BK360.out 3).trans rfl, (blk_cell BK360.out 4).trans rfl, (blk_cell BK360.out 5).trans rfl, (blk_cell BK361.out 0).trans rfl, (blk_cell BK361.out 1).trans rfl⟩ (fun hHeld => ?_)
              clear hK K
              refine norm_ (a' := ?_) ?_ ?_
              rotate_left
              · show Act.put _ (some 6) _ = _
                simp only [Act.put, List.setIfInBounds_toArray, List.set_cons_zero, List.set_cons_succ, i64_w, i32_w]
                rfl
              exact norm_ (by simp only [putAll, Act.put, List.setIfInBounds_toArray, List.set_cons_zero, List.set_cons_succ]) (hCont (.slice Ao25 t364.length co25, .slice Ao26 t373.length co26, v377, gb386) _ ⟨hHeld, (by exact Kd.R_nw (Kd.R_mono HO366.out (fun _ hk => hk.2))), (by exact Kd.R_nw HO375.out), (by exact Kd.R_nw (Kd.R_mono HO378.out (fun _ hk => hk.2))), (by exact blk_nw BK360.out), (by exact blk_nw BK361.out), (by exact blk_nw BK386.out), GW386.out, GE386.out, NB360_386.out, NB386_360.out, NB361_386.out, NB386_361.out, (by exact bel0)⟩)
            · skip
              refine box_step ?hg (N := 6) ?hd (cs := #[.slice none 0 0, .int .i64 0, .int .i64 0, .int .i64 0, .int .i64 0, .int .i64 0]) (t := 90) ?hr ?_; (case hd => rfl); (case hg => rfl); (case hr => first | (go_simp; done) | (go_simp; rfl))
              intro gb386 hg w25 hbox hb
              have n_ := an (Kd.R_below (by exact Kd.R_nw HO366.out) hb) (an (Kd.R_below (by exact Kd.R_nw HO375.out) hb) (an (blk_below (blk_nw BK360.out) hb) (an (blk_below (blk_nw BK361.out) hb) (an (below_step (by exact bel0) hb) (an (hbox) (an ((by rw [hg]; exact (below_size (by exact bel0)) : w.heap.size ≤ gb386)) (an ((by rw [hg]; exact (below_size (by exact bel0)) : w.heap.size ≤ gb386)) (an ((by rw [hg]; exact Nat.ne_of_lt (blk_lt (blk_nw BK360.out)) : gb360 ≠ gb386)) (an ((by rw [hg]; exact Nat.ne_of_gt (blk_lt (blk_nw BK360.out)) : gb386 ≠ gb360)) (an ((by rw [hg]; exact Nat.ne_of_lt (blk_lt (blk_nw BK361.out)) : gb361 ≠ gb386)) (an ((by rw [hg]; exact Nat.ne_of_gt (blk_lt (blk_nw BK361.out)) : gb386 ≠ gb361)) (trivial))))))))))))
              clear HO366 HO375 BK360 BK361 HB
              obtain ⟨HO366, HO375, BK360, BK361, HB, BK386, GW386, GE386, NB360_386, NB386_360, NB361_386, NB386_361, -⟩ := n_
              clear hb hbox hg
              obtain ⟨Ao26, co26, eo26⟩ := Kd.R_slice HO366.out
              (first | subst eo26 | (injection eo26 with f1_ f2_ f3_; have f4_ := f1_.symm; have f5_ := f3_.symm; clear f1_ f2_ f3_; subst f4_; subst f5_))
              obtain ⟨Ao27, co27, eo27⟩ := Kd.R_slice HO375.out
              (first | subst eo27 | (injection eo27 with f1_ f2_ f3_; have f4_ := f1_.symm; have f5_ := f3_.symm; clear f1_ f2_ f3_; subst f4_; subst f5_))
              refine hK.out _ _ ⟨(blk_cell BK360.out 0).trans rfl, (blk_cell BK360.out 1).trans rfl, (blk_cell BK360.out 2).trans rfl, (blk_cell BK360.out 3).trans rfl, (blk_cell BK360.out 4).trans rfl, (blk_cell BK360.out 5).trans rfl, (blk_cell BK361.out 0).trans rfl, (blk_cell BK361.out 1).trans rfl⟩ (fun hHeld => ?_)
              clear hK K
              refine norm_ (a' := ?_) ?_ ?_
              rotate_left
              · show Act.put _ (some 6) _ = _
                simp only [Act.put, List.setIfInBounds_toArray, List.set_cons_zero, List.set_cons_succ, i64_w, i32_w]
                rfl
              refine one_ (i := 4) (N := some 35) #[true, true, true, true, true, false, false, false, false, true, false, false, false] rfl rfl (one_of HT_.out (by kernel_rfl)) (by decide) (fun K hK => ?_)
              refine goes_ Try.func65 (by kernel_rfl) rfl #[.agg #[.slice Ao26 t364.length co26, .int .i64 t367, .int .i64 t368, .int .i64 t369, .int .i64 t370, .int .i64 t371], .agg #[.int .i64 t372, .slice Ao27 t373.length co27]] (by rfl) rfl rfl (by (try simp only [List.map_toArray, List.map_cons, List.map_nil]); first | done | rfl | (simp only [List.length_drop, List.length_take]; rfl)) ?_
              with_reducible refine (spec_ProbeTick.calls k _ _ t364 t367 t368 t369 t370 t371 t372 _ _ t373 t376 t379 t380 t381 t382 t383 t384 t385 _ ?side1 ?side2 ?side3 ?side4 A17.out).mono ?_
              (case side1 => repeat (first | exact (Kd.R_reads' HO366.out).2.2 | (with_reducible refine Kd.C_alloc ?_ _) | (with_reducible refine Kd.C_drewN ?_ _) | (with_reducible refine Kd.C_drew ?_)))
              (case side2 => exact (Kd.R_reads' HO366.out).2.1)
              (case side3 => repeat (first | exact (Kd.R_reads' HO375.out).2.2 | (with_reducible refine Kd.C_alloc ?_ _) | (with_reducible refine Kd.C_drewN ?_ _) | (with_reducible refine Kd.C_drew ?_)))
              (case side4 => exact (Kd.R_reads' HO375.out).2.1)
              rintro e w28 ⟨v377, rfl, ho0, hb⟩
              refine ⟨_, rfl, ?_⟩
              have n_ := an (Kd.R_elder' (by exact Kd.R_nw HO366.out) (Kd.R_base ho0) hb) (an (Kd.R_below (by exact Kd.R_nw HO375.out) hb) (an (Kd.R_lower (Kd.R_new' ho0 (Kd.R_lt (by exact Kd.R_nw HO366.out))) (below_size (by exact bel0))) (an (blk_below (blk_nw BK360.out) hb) (an (blk_below (blk_nw BK361.out) hb) (an (blk_below (blk_nw BK386.out) hb) (an (below_step (by exact bel0) hb) (trivial)))))))
              clear HO366 HO375 BK360 BK361 BK386 HB
              obtain ⟨HO366, HO375, HO378, BK360, BK361, BK386, HB, -⟩ := n_
              (try clear hb)
              (try clear hb2)
              (try clear hk)
              (try clear hi)
              (try clear ho0)
              refine hK.out _ _ ⟨(blk_cell BK360.out 0).trans rfl, (blk_cell BK360.out 1).trans rfl, (blk_cell BK360.out 2).trans rfl, (blk_cell BK360.out 3).trans rfl, (blk_cell BK360.out 4).trans rfl, (blk_cell BK360.out 5).trans rfl, (blk_cell BK361.out 0).trans rfl, (blk_cell BK361.out 1).trans rfl⟩ (fun hHeld => ?_)
              clear hK K
              refine norm_ (a' := ?_) ?_ ?_
              rotate_left
              · show Act.put _ (some 35) _ = _
                simp only [Act.put, List.setIfInBounds_toArray, List.set_cons_zero, List.set_cons_succ, i64_w, i32_w]
                rfl
              refine pure_ (i := 5) (N := some 30) (v := ?_) (a' := ?_) #[true, true, true, true, true, true, false, false, false, true, false, false, false] rfl rfl (any_of HT_.out (by kernel_rfl)) (fun _ _ _ h => h) (Or.inl ⟨by rfl, ?_⟩) ?_ ?_
              rotate_left; · intro w'; go_simp; with_reducible rfl
              rotate_left; · simp only [Act.put, List.setIfInBounds_toArray, List.set_cons_zero, List.set_cons_succ, i64_w, i32_w]; rfl
              refine pure_ (i := 6) (N := some 36) (v := ?_) (a' := ?_) #[true, true, true, true, true, true, true, false, false, true, false, false, false] rfl rfl (any_of HT_.out (by kernel_rfl)) (fun _ _ _ h => h) (Or.inl ⟨by rfl, ?_⟩) ?_ ?_
              rotate_left; · intro w'; go_simp; with_reducible rfl
              rotate_left; · simp only [Act.put, List.setIfInBounds_toArray, List.set_cons_zero, List.set_cons_succ, i64_w, i32_w]; rfl
              refine pure_ (i := 7) (N := some 37) (v := ?_) (a' := ?_) #[true, true, true, true, true, true, true, true, false, true, false, false, false] rfl rfl (any_of HT_.out (by kernel_rfl)) (fun _ _ _ h => h) (Or.inl ⟨by rfl, ?_⟩) ?_ ?_
              rotate_left; · intro w'; go_simp; with_reducible rfl
              rotate_left; · simp only [Act.put, List.setIfInBounds_toArray, List.set_cons_zero, List.set_cons_succ, i64_w, i32_w]; rfl
              refine pure_ (i := 8) (N := some 38) (v := ?_) (a' := ?_) #[true, true, true, true, true, true, true, true, true, true, false, false, false] rfl rfl (any_of HT_.out (by kernel_rfl)) (fun _ _ _ h => h) (Or.inl ⟨by rfl, ?_⟩) ?_ ?_
              rotate_left; · intro w'; go_simp; with_reducible rfl
              rotate_left; · simp only [Act.put, List.setIfInBounds_toArray, List.set_cons_zero, List.set_cons_succ, i64_w, i32_w]; rfl
              exact norm_ (by simp only [putAll, Act.put, List.setIfInBounds_toArray, List.set_cons_zero, List.set_cons_succ]) (hCont (.slice Ao26 t364.length co26, .slice Ao27 t373.length co27, v377, gb386) _ ⟨hHeld, (by exact Kd.R_nw (Kd.R_mono HO366.out (fun _ hk => hk.2))), (by exact Kd.R_nw HO375.out), (by exact Kd.R_nw (Kd.R_mono HO378.out (fun _ hk => hk.2))), (by exact blk_nw BK360.out), (by exact blk_nw BK361.out), (by exact blk_nw BK386.out), GW386.out, GE386.out, NB360_386.out, NB386_360.out, NB361_386.out, NB386_361.out, (by exact bel0)⟩)
          · skip
            refine box_step ?hg (N := 6) ?hd (cs := #[.slice none 0 0, .int .i64 0, .int .i64 0, .int .i64 0, .int .i64 0, .int .i64 0]) (t := 90) ?hr ?_; (case hd => rfl); (case hg => rfl); (case hr => first | (go_simp; done) | (go_simp; rfl))
            intro gb386 hg w24 hbox hb
            have n_ := an (Kd.R_below (by exact Kd.R_nw HO366.out) hb) (an (blk_below (blk_nw BK360.out) hb) (an (blk_below (blk_nw BK361.out) hb) (an (below_step (by exact bel0) hb) (an (hbox) (an ((by rw [hg]; exact (below_size (by exact bel0)) : w.heap.size ≤ gb386)) (an ((by rw [hg]; exact (below_size (by exact bel0)) : w.heap.size ≤ gb386)) (an ((by rw [hg]; exact Nat.ne_of_lt (blk_lt (blk_nw BK360.out)) : gb360 ≠ gb386)) (an ((by rw [hg]; exact Nat.ne_of_gt (blk_lt (blk_nw BK360.out)) : gb386 ≠ gb360)) (an ((by rw [hg]; exact Nat.ne_of_lt (blk_lt (blk_nw BK361.out)) : gb361 ≠ gb386)) (an ((by rw [hg]; exact Nat.ne_of_gt (blk_lt (blk_nw BK361.out)) : gb386 ≠ gb361)) (trivial)))))))))))
            clear HO366 BK360 BK361 HB
            obtain ⟨HO366, BK360, BK361, HB, BK386, GW386, GE386, NB360_386, NB386_360, NB361_386, NB386_361, -⟩ := n_
            clear hb hbox hg
            refine hK.out _ _ ⟨(blk_cell BK360.out 0).trans rfl, (blk_cell BK360.out 1).trans rfl, (blk_cell BK360.out 2).trans rfl, (blk_cell BK360.out 3).trans rfl, (blk_cell BK360.out 4).trans rfl, (blk_cell BK360.out 5).trans rfl, (blk_cell BK361.out 0).trans rfl, (blk_cell BK361.out 1).trans rfl⟩ (fun hHeld => ?_)
            clear hK K
            refine norm_ (a' := ?_) ?_ ?_
            rotate_left
            · show Act.put _ (some 6) _ = _
              simp only [Act.put, List.setIfInBounds_toArray, List.set_cons_zero, List.set_cons_succ, i64_w, i32_w]
              rfl
            refine one_ (i := 3) (N := some 34) #[true, true, true, true, false, false, false, false, false, true, false, false, false] rfl rfl (one_of HT_.out (by kernel_rfl)) (by decide) (fun K hK => ?_)
            refine goes_ Try.func25 (by kernel_rfl) rfl #[.agg #[.int .i64 a1_0, .slice A1_1 l1_1.length c1_1]] (by rfl) rfl rfl (by (try simp only [List.map_toArray, List.map_cons, List.map_nil]); first | done | rfl | (simp only [List.length_drop, List.length_take]; rfl)) ?_
            with_reducible refine (laws_toTable.calls k a1_0 _ _ l1_1 t372 t373 _ ?side1 ?side2 A16.out).mono ?_
            (case side1 => repeat (first | exact (Kd.C_below HR1_1.out HB.out) | (with_reducible refine Kd.C_alloc ?_ _) | (with_reducible refine Kd.C_drewN ?_ _) | (with_reducible refine Kd.C_drew ?_)))
            (case side2 => exact HC1_1.out)
            rintro e w25 ⟨v374, rfl, ho0, hb⟩
            refine ⟨_, rfl, ?_⟩
            have n_ := an (Kd.R_below (by exact Kd.R_nw HO366.out) hb) (an (Kd.R_lower ho0 (below_size (by exact bel0))) (an (blk_below (blk_nw BK360.out) hb) (an (blk_below (blk_nw BK361.out) hb) (an (blk_below (blk_nw BK386.out) hb) (an (below_step (by exact bel0) hb) (trivial))))))
            clear HO366 BK360 BK361 BK386 HB
            obtain ⟨HO366, HO375, BK360, BK361, BK386, HB, -⟩ := n_
            (try clear hb)
            (try clear hb2)
            (try clear hk)
            (try clear hi)
            (try clear ho0)
            obtain ⟨Ao26, co26, eo26⟩ := Kd.R_slice HO366.out
            (first | subst eo26 | (injection eo26 with f1_ f2_ f3_; have f4_ := f1_.symm; have f5_ := f3_.symm; clear f1_ f2_ f3_; subst f4_; subst f5_))
            obtain ⟨Ao27, co27, eo27⟩ := Kd.R_slice HO375.out
            (first | subst eo27 | (injection eo27 with f1_ f2_ f3_; have f4_ := f1_.symm; have f5_ := f3_.symm; clear f1_ f2_ f3_; subst f4_; subst f5_))
            refine hK.out _ _ ⟨(blk_cell BK360.out 0).trans rfl, (blk_cell BK360.out 1).trans rfl, (blk_cell BK360.out 2).trans rfl, (blk_cell BK360.out 3).trans rfl, (blk_cell BK360.out 4).trans rfl, (blk_cell BK360.out 5).trans rfl, (blk_cell BK361.out 0).trans rfl, (blk_cell BK361.out 1).trans rfl⟩ (fun hHeld => ?_)
            clear hK K
            refine norm_ (a' := ?_) ?_ ?_
            rotate_left
            · show Act.put _ (some 34) _ = _
              simp only [Act.put, List.setIfInBounds_toArray, List.set_cons_zero, List.set_cons_succ, i64_w, i32_w]
              rfl
            refine one_ (i := 4) (N := some 35) #[true, true, true, true, true, false, false, false, false, true, false, false, false] rfl rfl (one_of HT_.out (by kernel_rfl)) (by decide) (fun K hK => ?_)
            refine goes_ Try.func65 (by kernel_rfl) rfl #[.agg #[.slice Ao26 t364.length co26, .int .i64 t367, .int .i64 t368, .int .i64 t369, .int .i64 t370, .int .i64 t371], .agg #[.int .i64 t372, .slice Ao27 t373.length co27]] (by rfl) rfl rfl (by (try simp only [List.map_toArray, List.map_cons, List.map_nil]); first | done | rfl | (simp only [List.length_drop, List.length_take]; rfl)) ?_
            with_reducible refine (spec_ProbeTick.calls k _ _ t364 t367 t368 t369 t370 t371 t372 _ _ t373 t376 t379 t380 t381 t382 t383 t384 t385 _ ?side1 ?side2 ?side3 ?side4 A17.out).mono ?_
            (case side1 => repeat (first | exact (Kd.R_reads' HO366.out).2.2 | (with_reducible refine Kd.C_alloc ?_ _) | (with_reducible refine Kd.C_drewN ?_ _) | (with_reducible refine Kd.C_drew ?_)))
            (case side2 => exact (Kd.R_reads' HO366.out).2.1)
            (case side3 => repeat (first | exact (Kd.R_reads' HO375.out).2.2 | (with_reducible refine Kd.C_alloc ?_ _) | (with_reducible refine Kd.C_drewN ?_ _) | (with_reducible refine Kd.C_drew ?_)))
            (case side4 => exact (Kd.R_reads' HO375.out).2.1)
            rintro e w28 ⟨v377, rfl, ho0, hb⟩
            refine ⟨_, rfl, ?_⟩
            have n_ := an (Kd.R_elder' (by exact Kd.R_nw HO366.out) (Kd.R_base ho0) hb) (an (Kd.R_below (by exact Kd.R_nw HO375.out) hb) (an (Kd.R_lower (Kd.R_new' ho0 (Kd.R_lt (by exact Kd.R_nw HO366.out))) (below_size (by exact bel0))) (an (blk_below (blk_nw BK360.out) hb) (an (blk_below (blk_nw BK361.out) hb) (an (blk_below (blk_nw BK386.out) hb) (an (below_step (by exact bel0) hb) (trivial)))))))
            clear HO366 HO375 BK360 BK361 BK386 HB
            obtain ⟨HO366, HO375, HO378, BK360, BK361, BK386, HB, -⟩ := n_
            (try clear hb)
            (try clear hb2)
            (try clear hk)
            (try clear hi)
            (try clear ho0)
            refine hK.out _ _ ⟨(blk_cell BK360.out 0).trans rfl, (blk_cell BK360.out 1).trans rfl, (blk_cell BK360.out 2).trans rfl, (blk_cell BK360.out 3).trans rfl, (blk_cell BK360.out 4).trans rfl, (blk_cell BK360.out 5).trans rfl, (blk_cell BK361.out 0).trans rfl, (blk_cell BK361.out 1).trans rfl⟩ (fun hHeld => ?_)
            clear hK K
            refine norm_ (a' := ?_) ?_ ?_
            rotate_left
            · show Act.put _ (some 35) _ = _
              simp only [Act.put, List.setIfInBounds_toArray, List.set_cons_zero, List.set_cons_succ, i64_w, i32_w]
              rfl
            refine pure_ (i := 5) (N := some 30) (v := ?_) (a' := ?_) #[true, true, true, true, true, true, false, false, false, true, false, false, false] rfl rfl (any_of HT_.out (by kernel_rfl)) (fun _ _ _ h => h) (Or.inl ⟨by rfl, ?_⟩) ?_ ?_
            rotate_left; · intro w'; go_simp; with_reducible rfl
            rotate_left; · simp only [Act.put, List.setIfInBounds_toArray, List.set_cons_zero, List.set_cons_succ, i64_w, i32_w]; rfl
            refine pure_ (i := 6) (N := some 36) (v := ?_) (a' := ?_) #[true, true, true, true, true, true, true, false, false, true, false, false, false] rfl rfl (any_of HT_.out (by kernel_rfl)) (fun _ _ _ h => h) (Or.inl ⟨by rfl, ?_⟩) ?_ ?_
            rotate_left; · intro w'; go_simp; with_reducible rfl
            rotate_left; · simp only [Act.put, List.setIfInBounds_toArray, List.set_cons_zero, List.set_cons_succ, i64_w, i32_w]; rfl
            refine pure_ (i := 7) (N := some 37) (v := ?_) (a' := ?_) #[true, true, true, true, true, true, true, true, false, true, false, false, false] rfl rfl (any_of HT_.out (by kernel_rfl)) (fun _ _ _ h => h) (Or.inl ⟨by rfl, ?_⟩) ?_ ?_
            rotate_left; · intro w'; go_simp; with_reducible rfl
            rotate_left; · simp only [Act.put, List.setIfInBounds_toArray, List.set_cons_zero, List.set_cons_succ, i64_w, i32_w]; rfl
            refine pure_ (i := 8) (N := some 38) (v := ?_) (a' := ?_) #[true, true, true, true, true, true, true, true, true, true, false, false, false] rfl rfl (any_of HT_.out (by kernel_rfl)) (fun _ _ _ h => h) (Or.inl ⟨by rfl, ?_⟩) ?_ ?_
            rotate_left; · intro w'; go_simp; with_reducible rfl
            rotate_left; · simp only [Act.put, List.setIfInBounds_toArray, List.set_cons_zero, List.set_cons_succ, i64_w, i32_w]; rfl
            exact norm_ (by simp only [putAll, Act.put, List.setIfInBounds_toArray, List.set_cons_zero, List.set_cons_succ]) (hCont (.slice Ao26 t364.length co26, .slice Ao27 t373.length co27, v377, gb386) _ ⟨hHeld, (by exact Kd.R_nw (Kd.R_mono HO366.out (fun _ hk => hk.2))), (by exact Kd.R_nw HO375.out), (by exact Kd.R_nw (Kd.R_mono HO378.out (fun _ hk => hk.2))), (by exact blk_nw BK360.out), (by exact blk_nw BK361.out), (by exact blk_nw BK386.out), GW386.out, GE386.out, NB360_386.out, NB386_360.out, NB361_386.out, NB386_361.out, (by exact bel0)⟩)
        · skip
          refine box_step ?hg (N := 6) ?hd (cs := #[.slice none 0 0, .int .i64 0, .int .i64 0, .int .i64 0, .int .i64 0, .int .i64 0]) (t := 90) ?hr ?_; (case hd => rfl); (case hg => rfl); (case hr => first | (go_simp; done) | (go_simp; rfl))
          intro gb386 hg w23 hbox hb
          have n_ := an (blk_below (blk_nw BK360.out) hb) (an (blk_below (blk_nw BK361.out) hb) (an (below_step (by exact bel0) hb) (an (hbox) (an ((by rw [hg]; exact (below_size (by exact bel0)) : w.heap.size ≤ gb386)) (an ((by rw [hg]; exact (below_size (by exact bel0)) : w.heap.size ≤ gb386)) (an ((by rw [hg]; exact Nat.ne_of_lt (blk_lt (blk_nw BK360.out)) : gb360 ≠ gb386)) (an ((by rw [hg]; exact Nat.ne_of_gt (blk_lt (blk_nw BK360.out)) : gb386 ≠ gb360)) (an ((by rw [hg]; exact Nat.ne_of_lt (blk_lt (blk_nw BK361.out)) : gb361 ≠ gb386)) (an ((by rw [hg]; exact Nat.ne_of_gt (blk_lt (blk_nw BK361.out)) : gb386 ≠ gb361)) (trivial))))))))))
          clear BK360 BK361 HB
          obtain ⟨BK360, BK361, HB, BK386, GW386, GE386, NB360_386, NB386_360, NB361_386, NB386_361, -⟩ := n_
          clear hb hbox hg
          refine hK.out _ _ ⟨(blk_cell BK360.out 0).trans rfl, (blk_cell BK360.out 1).trans rfl, (blk_cell BK360.out 2).trans rfl, (blk_cell BK360.out 3).trans rfl, (blk_cell BK360.out 4).trans rfl, (blk_cell BK360.out 5).trans rfl, (blk_cell BK361.out 0).trans rfl, (blk_cell BK361.out 1).trans rfl⟩ (fun hHeld => ?_)
          clear hK K
          refine norm_ (a' := ?_) ?_ ?_
          rotate_left
          · show Act.put _ (some 6) _ = _
            simp only [Act.put, List.setIfInBounds_toArray, List.set_cons_zero, List.set_cons_succ, i64_w, i32_w]
            rfl
          refine one_ (i := 1) (N := some 32) #[true, true, true, false, false, false, false, false, false, true, false, false, false] rfl rfl (one_of HT_.out (by kernel_rfl)) (by decide) (fun K hK => ?_)
          refine goes_ Try.func58 (by kernel_rfl) rfl #[.agg #[.slice A0_0 l0_0.length c0_0, .int .i64 a0_1, .int .i64 a0_2, .int .i64 a0_3, .int .i64 a0_4, .int .i64 a0_5]] (by rfl) rfl rfl (by (try simp only [List.map_toArray, List.map_cons, List.map_nil]); first | done | rfl | (simp only [List.length_drop, List.length_take]; rfl)) ?_
          with_reducible refine (laws_toProber.calls k _ _ l0_0 a0_1 a0_2 a0_3 a0_4 a0_5 t364 t367 t368 t369 t370 t371 _ ?side1 ?side2 A15.out).mono ?_
          (case side1 => repeat (first | exact (Kd.C_below HR0_0.out HB.out) | (with_reducible refine Kd.C_alloc ?_ _) | (with_reducible refine Kd.C_drewN ?_ _) | (with_reducible refine Kd.C_drew ?_)))
          (case side2 => exact HC0_0.out)
          rintro e w24 ⟨v365, rfl, ho0, hb⟩
          refine ⟨_, rfl, ?_⟩
          have n_ := an (Kd.R_lower ho0 (below_size (by exact bel0))) (an (blk_below (blk_nw BK360.out) hb) (an (blk_below (blk_nw BK361.out) hb) (an (blk_below (blk_nw BK386.out) hb) (an (below_step (by exact bel0) hb) (trivial)))))
          clear BK360 BK361 BK386 HB
          obtain ⟨HO366, BK360, BK361, BK386, HB, -⟩ := n_
          (try clear hb)
          (try clear hb2)
          (try clear hk)
          (try clear hi)
          (try clear ho0)
          refine hK.out _ _ ⟨(blk_cell BK360.out 0).trans rfl, (blk_cell BK360.out 1).trans rfl, (blk_cell BK360.out 2).trans rfl, (blk_cell BK360.out 3).trans rfl, (blk_cell BK360.out 4).trans rfl, (blk_cell BK360.out 5).trans rfl, (blk_cell BK361.out 0).trans rfl, (blk_cell BK361.out 1).trans rfl⟩ (fun hHeld => ?_)
          clear hK K
          refine norm_ (a' := ?_) ?_ ?_
          rotate_left
          · show Act.put _ (some 32) _ = _
            simp only [Act.put, List.setIfInBounds_toArray, List.set_cons_zero, List.set_cons_succ, i64_w, i32_w]
            rfl
          refine one_ (i := 3) (N := some 34) #[true, true, true, true, false, false, false, false, false, true, false, false, false] rfl rfl (one_of HT_.out (by kernel_rfl)) (by decide) (fun K hK => ?_)
          refine goes_ Try.func25 (by kernel_rfl) rfl #[.agg #[.int .i64 a1_0, .slice A1_1 l1_1.length c1_1]] (by rfl) rfl rfl (by (try simp only [List.map_toArray, List.map_cons, List.map_nil]); first | done | rfl | (simp only [List.length_drop, List.length_take]; rfl)) ?_
          with_reducible refine (laws_toTable.calls k a1_0 _ _ l1_1 t372 t373 _ ?side1 ?side2 A16.out).mono ?_
          (case side1 => repeat (first | exact (Kd.C_below HR1_1.out HB.out) | (with_reducible refine Kd.C_alloc ?_ _) | (with_reducible refine Kd.C_drewN ?_ _) | (with_reducible refine Kd.C_drew ?_)))
          (case side2 => exact HC1_1.out)
          rintro e w25 ⟨v374, rfl, ho0, hb⟩
          refine ⟨_, rfl, ?_⟩
          have n_ := an (Kd.R_below (by exact Kd.R_nw HO366.out) hb) (an (Kd.R_lower ho0 (below_size (by exact bel0))) (an (blk_below (blk_nw BK360.out) hb) (an (blk_below (blk_nw BK361.out) hb) (an (blk_below (blk_nw BK386.out) hb) (an (below_step (by exact bel0) hb) (trivial))))))
          clear HO366 BK360 BK361 BK386 HB
          obtain ⟨HO366, HO375, BK360, BK361, BK386, HB, -⟩ := n_
          (try clear hb)
          (try clear hb2)
          (try clear hk)
          (try clear hi)
          (try clear ho0)
          obtain ⟨Ao26, co26, eo26⟩ := Kd.R_slice HO366.out
          (first | subst eo26 | (injection eo26 with f1_ f2_ f3_; have f4_ := f1_.symm; have f5_ := f3_.symm; clear f1_ f2_ f3_; subst f4_; subst f5_))
          obtain ⟨Ao27, co27, eo27⟩ := Kd.R_slice HO375.out
          (first | subst eo27 | (injection eo27 with f1_ f2_ f3_; have f4_ := f1_.symm; have f5_ := f3_.symm; clear f1_ f2_ f3_; subst f4_; subst f5_))
          refine hK.out _ _ ⟨(blk_cell BK360.out 0).trans rfl, (blk_cell BK360.out 1).trans rfl, (blk_cell BK360.out 2).trans rfl, (blk_cell BK360.out 3).trans rfl, (blk_cell BK360.out 4).trans rfl, (blk_cell BK360.out 5).trans rfl, (blk_cell BK361.out 0).trans rfl, (blk_cell BK361.out 1).trans rfl⟩ (fun hHeld => ?_)
          clear hK K
          refine norm_ (a' := ?_) ?_ ?_
          rotate_left
          · show Act.put _ (some 34) _ = _
            simp only [Act.put, List.setIfInBounds_toArray, List.set_cons_zero, List.set_cons_succ, i64_w, i32_w]
            rfl
          refine one_ (i := 4) (N := some 35) #[true, true, true, true, true, false, false, false, false, true, false, false, false] rfl rfl (one_of HT_.out (by kernel_rfl)) (by decide) (fun K hK => ?_)
          refine goes_ Try.func65 (by kernel_rfl) rfl #[.agg #[.slice Ao26 t364.length co26, .int .i64 t367, .int .i64 t368, .int .i64 t369, .int .i64 t370, .int .i64 t371], .agg #[.int .i64 t372, .slice Ao27 t373.length co27]] (by rfl) rfl rfl (by (try simp only [List.map_toArray, List.map_cons, List.map_nil]); first | done | rfl | (simp only [List.length_drop, List.length_take]; rfl)) ?_
          with_reducible refine (spec_ProbeTick.calls k _ _ t364 t367 t368 t369 t370 t371 t372 _ _ t373 t376 t379 t380 t381 t382 t383 t384 t385 _ ?side1 ?side2 ?side3 ?side4 A17.out).mono ?_
          (case side1 => repeat (first | exact (Kd.R_reads' HO366.out).2.2 | (with_reducible refine Kd.C_alloc ?_ _) | (with_reducible refine Kd.C_drewN ?_ _) | (with_reducible refine Kd.C_drew ?_)))
          (case side2 => exact (Kd.R_reads' HO366.out).2.1)
          (case side3 => repeat (first | exact (Kd.R_reads' HO375.out).2.2 | (with_reducible refine Kd.C_alloc ?_ _) | (with_reducible refine Kd.C_drewN ?_ _) | (with_reducible refine Kd.C_drew ?_)))
          (case side4 => exact (Kd.R_reads' HO375.out).2.1)
          rintro e w28 ⟨v377, rfl, ho0, hb⟩
          refine ⟨_, rfl, ?_⟩
          have n_ := an (Kd.R_elder' (by exact Kd.R_nw HO366.out) (Kd.R_base ho0) hb) (an (Kd.R_below (by exact Kd.R_nw HO375.out) hb) (an (Kd.R_lower (Kd.R_new' ho0 (Kd.R_lt (by exact Kd.R_nw HO366.out))) (below_size (by exact bel0))) (an (blk_below (blk_nw BK360.out) hb) (an (blk_below (blk_nw BK361.out) hb) (an (blk_below (blk_nw BK386.out) hb) (an (below_step (by exact bel0) hb) (trivial)))))))
          clear HO366 HO375 BK360 BK361 BK386 HB
          obtain ⟨HO366, HO375, HO378, BK360, BK361, BK386, HB, -⟩ := n_
          (try clear hb)
          (try clear hb2)
          (try clear hk)
          (try clear hi)
          (try clear ho0)
          refine hK.out _ _ ⟨(blk_cell BK360.out 0).trans rfl, (blk_cell BK360.out 1).trans rfl, (blk_cell BK360.out 2).trans rfl, (blk_cell BK360.out 3).trans rfl, (blk_cell BK360.out 4).trans rfl, (blk_cell BK360.out 5).trans rfl, (blk_cell BK361.out 0).trans rfl, (blk_cell BK361.out 1).trans rfl⟩ (fun hHeld => ?_)
          clear hK K
          refine norm_ (a' := ?_) ?_ ?_
          rotate_left
          · show Act.put _ (some 35) _ = _
            simp only [Act.put, List.setIfInBounds_toArray, List.set_cons_zero, List.set_cons_succ, i64_w, i32_w]
            rfl
          refine pure_ (i := 5) (N := some 30) (v := ?_) (a' := ?_) #[true, true, true, true, true, true, false, false, false, true, false, false, false] rfl rfl (any_of HT_.out (by kernel_rfl)) (fun _ _ _ h => h) (Or.inl ⟨by rfl, ?_⟩) ?_ ?_
          rotate_left; · intro w'; go_simp; with_reducible rfl
          rotate_left; · simp only [Act.put, List.setIfInBounds_toArray, List.set_cons_zero, List.set_cons_succ, i64_w, i32_w]; rfl
          refine pure_ (i := 6) (N := some 36) (v := ?_) (a' := ?_) #[true, true, true, true, true, true, true, false, false, true, false, false, false] rfl rfl (any_of HT_.out (by kernel_rfl)) (fun _ _ _ h => h) (Or.inl ⟨by rfl, ?_⟩) ?_ ?_
          rotate_left; · intro w'; go_simp; with_reducible rfl
          rotate_left; · simp only [Act.put, List.setIfInBounds_toArray, List.set_cons_zero, List.set_cons_succ, i64_w, i32_w]; rfl
          refine pure_ (i := 7) (N := some 37) (v := ?_) (a' := ?_) #[true, true, true, true, true, true, true, true, false, true, false, false, false] rfl rfl (any_of HT_.out (by kernel_rfl)) (fun _ _ _ h => h) (Or.inl ⟨by rfl, ?_⟩) ?_ ?_
          rotate_left; · intro w'; go_simp; with_reducible rfl
          rotate_left; · simp only [Act.put, List.setIfInBounds_toArray, List.set_cons_zero, List.set_cons_succ, i64_w, i32_w]; rfl
          refine pure_ (i := 8) (N := some 38) (v := ?_) (a' := ?_) #[true, true, true, true, true, true, true, true, true, true, false, false, false] rfl rfl (any_of HT_.out (by kernel_rfl)) (fun _ _ _ h => h) (Or.inl ⟨by rfl, ?_⟩) ?_ ?_
          rotate_left; · intro w'; go_simp; with_reducible rfl
          rotate_left; · simp only [Act.put, List.setIfInBounds_toArray, List.set_cons_zero, List.set_cons_succ, i64_w, i32_w]; rfl
          exact norm_ (by simp only [putAll, Act.put, List.setIfInBounds_toArray, List.set_cons_zero, List.set_cons_succ]) (hCont (.slice Ao26 t364.length co26, .slice Ao27 t373.length co27, v377, gb386) _ ⟨hHeld, (by exact Kd.R_nw (Kd.R_mono HO366.out (fun _ hk => hk.2))), (by exact Kd.R_nw HO375.out), (by exact Kd.R_nw (Kd.R_mono HO378.out (fun _ hk => hk.2))), (by exact blk_nw BK360.out), (by exact blk_nw BK361.out), (by exact blk_nw BK386.out), GW386.out, GE386.out, NB360_386.out, NB386_360.out, NB361_386.out, NB386_361.out, (by exact bel0)⟩)
      rintro ⟨v365, v374, v377, gb386⟩ w29 ⟨hS_, h0_, h1_, h2_, h3_, h4_, h5_, h6_, h7_, h8_, h9_, h10_, h11_, h12_⟩
      have n0_ : Aside0 (Kd.R (Kd.int .i64) 3 w29 w.heap.size (fun k_ => some k_ ≠ (v377 : Value).ownBlock) v365 t364) := ⟨h0_⟩
      have n1_ : Aside0 (Kd.R k82 82 w29 w.heap.size (fun _ => True) v374 t373) := ⟨h1_⟩
      have n2_ : Aside0 (Kd.R (Kd.int .i64) 3 w29 w.heap.size (fun k_ => some k_ ≠ (v365 : Value).ownBlock) v377 t376) := ⟨h2_⟩
      have n3_ : Aside0 (w29.heap[gb360]? = some (.cells #[.slice A0_0 l0_0.length c0_0, .int .i64 a0_1, .int .i64 a0_2, .int .i64 a0_3, .int .i64 a0_4, .int .i64 a0_5] 88 (0, 0))) := ⟨h3_⟩
      have n4_ : Aside0 (w29.heap[gb361]? = some (.cells #[.int .i64 a1_0, .slice A1_1 l1_1.length c1_1] 37 (0, 0))) := ⟨h4_⟩
      have n5_ : Aside0 (w29.heap[gb386]? = some (.cells #[.slice none 0 0, .int .i64 0, .int .i64 0, .int .i64 0, .int .i64 0, .int .i64 0] 90 (0, 0))) := ⟨h5_⟩
      have n6_ : Aside0 (w.heap.size ≤ gb386) := ⟨h6_⟩
      have n7_ : Aside0 (w.heap.size ≤ gb386) := ⟨h7_⟩
      have n8_ : Aside0 (gb360 ≠ gb386) := ⟨h8_⟩
      have n9_ : Aside0 (gb386 ≠ gb360) := ⟨h9_⟩
      have n10_ : Aside0 (gb361 ≠ gb386) := ⟨h10_⟩
      have n11_ : Aside0 (gb386 ≠ gb361) := ⟨h11_⟩
      have n12_ : Aside0 (Below w.heap.size w w29) := ⟨h12_⟩
      clear BK360
      clear BK361
      clear HB
      clear h0_ h1_ h2_ h3_ h4_ h5_ h6_ h7_ h8_ h9_ h10_ h11_ h12_
      have HO366 := n0_
      have HO375 := n1_
      have HO378 := n2_
      have BK360 := n3_
      have BK361 := n4_
      have BK386 := n5_
      have GW386 := n6_
      have GE386 := n7_
      have NB360_386 := n8_
      have NB386_360 := n9_
      have NB361_386 := n10_
      have NB386_361 := n11_
      have HB := n12_
      clear n0_ n1_ n2_ n3_ n4_ n5_ n6_ n7_ n8_ n9_ n10_ n11_ n12_
      have hHeld : w29.cell? ⟨gb360, 0, none⟩ = some (.slice A0_0 l0_0.length c0_0) ∧ w29.cell? ⟨gb360, 1, none⟩ = some (.int .i64 a0_1) ∧ w29.cell? ⟨gb360, 2, none⟩ = some (.int .i64 a0_2) ∧ w29.cell? ⟨gb360, 3, none⟩ = some (.int .i64 a0_3) ∧ w29.cell? ⟨gb360, 4, none⟩ = some (.int .i64 a0_4) ∧ w29.cell? ⟨gb360, 5, none⟩ = some (.int .i64 a0_5) ∧ w29.cell? ⟨gb361, 0, none⟩ = some (.int .i64 a1_0) ∧ w29.cell? ⟨gb361, 1, none⟩ = some (.slice A1_1 l1_1.length c1_1) := hS_
      obtain ⟨Ao30, co30, eo30⟩ := Kd.R_slice HO378.out
      (first | subst eo30 | (injection eo30 with f1_ f2_ f3_; have f4_ := f1_.symm; have f5_ := f3_.symm; clear f1_ f2_ f3_; subst f4_; subst f5_))
      refine norm_ (a' := ?_) ?_ ?_
      rotate_left; · simp only [putAll, Act.put, List.setIfInBounds_toArray, List.set_cons_zero, List.set_cons_succ]; rfl
      refine one_ (i := 10) (N := none) #[true, true, true, true, true, true, true, true, true, true, true, false, false] rfl rfl (one_of HT_.out (by kernel_rfl)) (by decide) (fun K hK => ?_)
      have hs31 : w29.cell? ⟨gb386, 0, none⟩ = some (.slice none 0 0) := (blk_cell BK386.out 0).trans rfl
      have hfs31 := blk_frozen BK386.out 0
      have hns31_0 := NB360_386.out
      have hns31_1 := NB361_386.out
      have hms31_0 := NB386_360.out
      have hms31_1 := NB386_361.out
      have hs32 : w29.cell? ⟨gb386, 1, none⟩ = some (.int .i64 0) := (blk_cell BK386.out 1).trans rfl
      have hfs32 := blk_frozen BK386.out 1
      have hns32_0 := NB360_386.out
      have hns32_1 := NB361_386.out
      have hms32_0 := NB386_360.out
      have hms32_1 := NB386_361.out
      have hs33 : w29.cell? ⟨gb386, 2, none⟩ = some (.int .i64 0) := (blk_cell BK386.out 2).trans rfl
      have hfs33 := blk_frozen BK386.out 2
      have hns33_0 := NB360_386.out
      have hns33_1 := NB361_386.out
      have hms33_0 := NB386_360.out
      have hms33_1 := NB386_361.out
      have hs34 : w29.cell? ⟨gb386, 3, none⟩ = some (.int .i64 0) := (blk_cell BK386.out 3).trans rfl
      have hfs34 := blk_frozen BK386.out 3
      have hns34_0 := NB360_386.out
      have hns34_1 := NB361_386.out
      have hms34_0 := NB386_360.out
      have hms34_1 := NB386_361.out
      have hs35 : w29.cell? ⟨gb386, 4, none⟩ = some (.int .i64 0) := (blk_cell BK386.out 4).trans rfl
      have hfs35 := blk_frozen BK386.out 4
      have hns35_0 := NB360_386.out
      have hns35_1 := NB361_386.out
      have hms35_0 := NB386_360.out
      have hms35_1 := NB386_361.out
      have hs36 : w29.cell? ⟨gb386, 5, none⟩ = some (.int .i64 0) := (blk_cell BK386.out 5).trans rfl
      have hfs36 := blk_frozen BK386.out 5
      have hns36_0 := NB360_386.out
      have hns36_1 := NB361_386.out
      have hms36_0 := NB386_360.out
      have hms36_1 := NB386_361.out
      refine skip_ (w1 := ?_) (by rfl) rfl ?_ ?_
      rotate_left
      · go_simp
        rfl
      refine hK.out _ _ ⟨((cell_far (p := ⟨gb386, _, none⟩) NB360_386.out _).trans (((cell_far (p := ⟨gb386, _, none⟩) NB360_386.out _).trans (((cell_far (p := ⟨gb386, _, none⟩) NB360_386.out _).trans (((cell_far (p := ⟨gb386, _, none⟩) NB360_386.out _).trans (((cell_far (p := ⟨gb386, _, none⟩) NB360_386.out _).trans (((cell_far (p := ⟨gb386, _, none⟩) NB360_386.out _).trans (hHeld.1)))))))))))), ((cell_far (p := ⟨gb386, _, none⟩) NB360_386.out _).trans (((cell_far (p := ⟨gb386, _, none⟩) NB360_386.out _).trans (((cell_far (p := ⟨gb386, _, none⟩) NB360_386.out _).trans (((cell_far (p := ⟨gb386, _, none⟩) NB360_386.out _).trans (((cell_far (p := ⟨gb386, _, none⟩) NB360_386.out _).trans (((cell_far (p := ⟨gb386, _, none⟩) NB360_386.out _).trans (hHeld.2.1)))))))))))), ((cell_far (p := ⟨gb386, _, none⟩) NB360_386.out _).trans (((cell_far (p := ⟨gb386, _, none⟩) NB360_386.out _).trans (((cell_far (p := ⟨gb386, _, none⟩) NB360_386.out _).trans (((cell_far (p := ⟨gb386, _, none⟩) NB360_386.out _).trans (((cell_far (p := ⟨gb386, _, none⟩) NB360_386.out _).trans (((cell_far (p := ⟨gb386, _, none⟩) NB360_386.out _).trans (hHeld.2.2.1)))))))))))), ((cell_far (p := ⟨gb386, _, none⟩) NB360_386.out _).trans (((cell_far (p := ⟨gb386, _, none⟩) NB360_386.out _).trans (((cell_far (p := ⟨gb386, _, none⟩) NB360_386.out _).trans (((cell_far (p := ⟨gb386, _, none⟩) NB360_386.out _).trans (((cell_far (p := ⟨gb386, _, none⟩) NB360_386.out _).trans (((cell_far (p := ⟨gb386, _, none⟩) NB360_386.out _).trans (hHeld.2.2.2.1)))))))))))), ((cell_far (p := ⟨gb386, _, none⟩) NB360_386.out _).trans (((cell_far (p := ⟨gb386, _, none⟩) NB360_386.out _).trans (((cell_far (p := ⟨gb386, _, none⟩) NB360_386.out _).trans (((cell_far (p := ⟨gb386, _, none⟩) NB360_386.out _).trans (((cell_far (p := ⟨gb386, _, none⟩) NB360_386.out _).trans (((cell_far (p := ⟨gb386, _, none⟩) NB360_386.out _).trans (hHeld.2.2.2.2.1)))))))))))), ((cell_far (p := ⟨gb386, _, none⟩) NB360_386.out _).trans (((cell_far (p := ⟨gb386, _, none⟩) NB360_386.out _).trans (((cell_far (p := ⟨gb386, _, none⟩) NB360_386.out _).trans (((cell_far (p := ⟨gb386, _, none⟩) NB360_386.out _).trans (((cell_far (p := ⟨gb386, _, none⟩) NB360_386.out _).trans (((cell_far (p := ⟨gb386, _, none⟩) NB360_386.out _).trans (hHeld.2.2.2.2.2.1)))))))))))), ((cell_far (p := ⟨gb386, _, none⟩) NB361_386.out _).trans (((cell_far (p := ⟨gb386, _, none⟩) NB361_386.out _).trans (((cell_far (p := ⟨gb386, _, none⟩) NB361_386.out _).trans (((cell_far (p := ⟨gb386, _, none⟩) NB361_386.out _).trans (((cell_far (p := ⟨gb386, _, none⟩) NB361_386.out _).trans (((cell_far (p := ⟨gb386, _, none⟩) NB361_386.out _).trans (hHeld.2.2.2.2.2.2.1)))))))))))), ((cell_far (p := ⟨gb386, _, none⟩) NB361_386.out _).trans (((cell_far (p := ⟨gb386, _, none⟩) NB361_386.out _).trans (((cell_far (p := ⟨gb386, _, none⟩) NB361_386.out _).trans (((cell_far (p := ⟨gb386, _, none⟩) NB361_386.out _).trans (((cell_far (p := ⟨gb386, _, none⟩) NB361_386.out _).trans (((cell_far (p := ⟨gb386, _, none⟩) NB361_386.out _).trans (hHeld.2.2.2.2.2.2.2))))))))))))⟩ (fun hHeld => ?_)
      clear hK K
      refine pure_ (i := 11) (N := some 7) (v := ?_) (a' := ?_) #[true, true, true, true, true, true, true, true, true, true, true, true, false] rfl rfl (any_of HT_.out (by kernel_rfl)) (fun _ _ _ h => h) (Or.inl ⟨by rfl, ?_⟩) ?_ ?_
      rotate_left; · intro w'; go_simp; with_reducible rfl
      rotate_left; · simp only [Act.put, List.setIfInBounds_toArray, List.set_cons_zero, List.set_cons_succ, i64_w, i32_w]; rfl
      refine pure_ (i := 12) (N := some 8) (v := ?_) (a' := ?_) #[true, true, true, true, true, true, true, true, true, true, true, true, true] rfl rfl (any_of HT_.out (by kernel_rfl)) (fun _ _ _ h => h) (Or.inl ⟨by rfl, ?_⟩) ?_ ?_
      rotate_left; · intro w'; go_simp; with_reducible rfl
      rotate_left; · simp only [Act.put, List.setIfInBounds_toArray, List.set_cons_zero, List.set_cons_succ, i64_w, i32_w]; rfl
      refine done_ (done_of HT_.out (by kernel_rfl)) ?_
      have hnb37 := NB360_361.out
      have hnc37 := NB361_360.out
      have hnb38 := NB360_386.out
      have hnc38 := NB386_360.out
      obtain ⟨hcz39_0, hcz39_1, hcz39_2, hcz39_3, hcz39_4, hcz39_5⟩ := blkz6 BK360.out
      have hfz39_0 := blkf BK360.out
      go_upto_region 12 with (first | ((with_reducible refine gate_callee (f := 58) rfl ?_); refine goesL_ (some 40) rfl rfl Try.func58 (by kernel_rfl) rfl #[.agg #[.slice A0_0 l0_0.length c0_0, .int .i64 a0_1, .int .i64 a0_2, .int .i64 a0_3, .int .i64 a0_4, .int .i64 a0_5]] rfl (by (try simp only [List.map_toArray, List.map_cons, List.map_nil]); first | done | rfl | (simp only [List.length_drop, List.length_take]; rfl)) ?_; (with_reducible refine (laws_toProber.calls k _ _ l0_0 a0_1 a0_2 a0_3 a0_4 a0_5 t387 t390 t391 t392 t393 t394 _ ?side1 ?side2 A18.out).mono ?_); (case side1 => exact Kd.C_below HR0_0.out (by exact bel0)); (case side2 => exact HC0_0.out); rintro e w40 ⟨v388, rfl, ho0, hb⟩; refine ⟨_, rfl, ?_⟩; have n_ := an (Kd.R_elder' (by exact (Kd.R_farN HO366.out BK386.out)) (Kd.R_base ho0) hb) (an (Kd.R_below (by exact (Kd.R_farN HO375.out BK386.out)) hb) (an (Kd.R_elder' (by exact (Kd.R_farN HO378.out BK386.out)) (Kd.R_base ho0) hb) (an (Kd.R_lower (Kd.R_new' (Kd.R_new' ho0 (Kd.R_lt (by exact (Kd.R_farN HO366.out BK386.out)))) (Kd.R_lt (by exact (Kd.R_farN HO378.out BK386.out)))) (below_size (by exact bel0))) (an (blk_below (blk_kb BK360.out NB360_386.out) hb) (an (blk_below (blk_kb BK361.out NB361_386.out) hb) (an (blk_below (g := gb386) (o := .cells #[.slice Ao30 t376.length co30, .int .i64 t379, .int .i64 t380, .int .i64 t381, .int .i64 t382, .int .i64 t383] 90 (0, 0)) (by (with_reducible repeat (first | refine blk_drewN ?_ _ | refine blk_drew ?_ | refine blk_alloc ?_ _)); exact blk_fill6 BK386.out) hb) (an (below_step (by exact bel0) hb) (trivial)))))))); clear HO366 HO375 HO378 BK360 BK361 BK386 HB; obtain ⟨HO366, HO375, HO378, HO389, BK360, BK361, BK386, HB, -⟩ := n_; (try clear hb); (try clear hb2); (try clear hk); (try clear hi); (try clear ho0)) | ((with_reducible refine gate_dst (N := 9) rfl ?_); refine box_event ?hg (N := 9) ?hd (cs := #[.slice none 0 0, .int .i64 0, .int .i64 0, .int .i64 0, .int .i64 0, .int .i64 0]) (t := 90) ?hr ?_; (case hd => rfl); (case hg => rfl); (case hr => first | (go_simp; done) | (go_simp; rfl)); intro gb395 hg w41 hbox hb; have n_ := an (Kd.R_below (by exact Kd.R_nw HO366.out) hb) (an (Kd.R_below (by exact Kd.R_nw HO375.out) hb) (an (Kd.R_below (by exact Kd.R_nw HO378.out) hb) (an (Kd.R_below (by exact Kd.R_nw HO389.out) hb) (an (blk_below (blk_nw BK360.out) hb) (an (blk_below (blk_nw BK361.out) hb) (an (blk_below (blk_nw BK386.out) hb) (an (below_step (by exact bel0) hb) (an (hbox) (an ((by rw [hg]; exact (below_size (by exact bel0)) : w.heap.size ≤ gb395)) (an ((by rw [hg]; exact (below_size (by exact bel0)) : w.heap.size ≤ gb395)) (an ((by rw [hg]; exact Nat.ne_of_lt (blk_lt (blk_nw BK360.out)) : gb360 ≠ gb395)) (an ((by rw [hg]; exact Nat.ne_of_gt (blk_lt (blk_nw BK360.out)) : gb395 ≠ gb360)) (an ((by rw [hg]; exact Nat.ne_of_lt (blk_lt (blk_nw BK361.out)) : gb361 ≠ gb395)) (an ((by rw [hg]; exact Nat.ne_of_gt (blk_lt (blk_nw BK361.out)) : gb395 ≠ gb361)) (an ((by rw [hg]; exact Nat.ne_of_lt (blk_lt (blk_nw BK386.out)) : gb386 ≠ gb395)) (an ((by rw [hg]; exact Nat.ne_of_gt (blk_lt (blk_nw BK386.out)) : gb395 ≠ gb386)) (trivial))))))))))))))))); clear HO366 HO375 HO378 HO389 BK360 BK361 BK386 HB; obtain ⟨HO366, HO375, HO378, HO389, BK360, BK361, BK386, HB, BK395, GW395, GE395, NB360_395, NB395_360, NB361_395, NB395_361, NB386_395, NB395_386, -⟩ := n_; clear hb hbox hg; obtain ⟨Ao42, co42, eo42⟩ := Kd.R_slice HO389.out; subst eo42; have hnb43 := NB395_360.out; have hnc43 := NB360_395.out; have hnb44 := NB395_361.out; have hnc44 := NB361_395.out; have hnb45 := NB395_386.out; have hnc45 := NB386_395.out; obtain ⟨hcz46_0, hcz46_1, hcz46_2, hcz46_3, hcz46_4, hcz46_5⟩ := blkz6 BK395.out; have hfz46_0 := blkf BK395.out; have hnb47 := NB361_386.out; have hnc47 := NB386_361.out; obtain ⟨hcz48_0, hcz48_1⟩ := blkz2 BK361.out; have hfz48_0 := blkf BK361.out) | ((with_reducible refine gate_callee (f := 25) rfl ?_); refine goesL_ (some 42) rfl rfl Try.func25 (by kernel_rfl) rfl #[.agg #[.int .i64 a1_0, .slice A1_1 l1_1.length c1_1]] rfl (by (try simp only [List.map_toArray, List.map_cons, List.map_nil]); first | done | rfl | (simp only [List.length_drop, List.length_take]; rfl)) ?_; (with_reducible refine (laws_toTable.calls k a1_0 _ _ l1_1 t396 t397 _ ?side1 ?side2 A19.out).mono ?_); (case side1 => exact Kd.C_below HR1_1.out (by exact bel0)); (case side2 => exact HC1_1.out); rintro e w49 ⟨v398, rfl, ho0, hb⟩; refine ⟨_, rfl, ?_⟩; have n_ := an (Kd.R_below (by exact (Kd.R_farN HO366.out BK395.out)) hb) (an (Kd.R_elder' (by exact (Kd.R_farN HO375.out BK395.out)) (Kd.R_base ho0) hb) (an (Kd.R_below (by exact (Kd.R_farN HO378.out BK395.out)) hb) (an (Kd.R_below (by exact (Kd.R_farN HO389.out BK395.out)) hb) (an (Kd.R_lower (Kd.R_new' ho0 (Kd.R_lt (by exact (Kd.R_farN HO375.out BK395.out)))) (below_size (by exact bel0))) (an (blk_below (blk_kb BK360.out NB360_395.out) hb) (an (blk_below (blk_kb BK361.out NB361_395.out) hb) (an (blk_below (blk_kb BK386.out NB386_395.out) hb) (an (blk_below (g := gb395) (o := .cells #[.slice Ao42 t387.length co42, .int .i64 t390, .int .i64 t391, .int .i64 t392, .int .i64 t393, .int .i64 t394] 90 (0, 0)) (by (with_reducible repeat (first | refine blk_drewN ?_ _ | refine blk_drew ?_ | refine blk_alloc ?_ _)); exact blk_fill6 BK395.out) hb) (an (below_step (by exact bel0) hb) (trivial)))))))))); clear HO366 HO375 HO378 HO389 BK360 BK361 BK386 BK395 HB; obtain ⟨HO366, HO375, HO378, HO389, HO399, BK360, BK361, BK386, BK395, HB, -⟩ := n_; (try clear hb); (try clear hb2); (try clear hk); (try clear hi); (try clear ho0)) | ((with_reducible refine gate_dst (N := 10) rfl ?_); refine box_event ?hg (N := 10) ?hd (cs := #[.int .i64 0, .slice none 0 0]) (t := 41) ?hr ?_; (case hd => rfl); (case hg => rfl); (case hr => first | (go_simp; done) | (go_simp; rfl)); intro gb400 hg w50 hbox hb; have n_ := an (Kd.R_below (by exact Kd.R_nw HO366.out) hb) (an (Kd.R_below (by exact Kd.R_nw HO375.out) hb) (an (Kd.R_below (by exact Kd.R_nw HO378.out) hb) (an (Kd.R_below (by exact Kd.R_nw HO389.out) hb) (an (Kd.R_below (by exact Kd.R_nw HO399.out) hb) (an (blk_below (blk_nw BK360.out) hb) (an (blk_below (blk_nw BK361.out) hb) (an (blk_below (blk_nw BK386.out) hb) (an (blk_below (blk_nw BK395.out) hb) (an (below_step (by exact bel0) hb) (an (hbox) (an ((by rw [hg]; exact (below_size (by exact bel0)) : w.heap.size ≤ gb400)) (an ((by rw [hg]; exact (below_size (by exact bel0)) : w.heap.size ≤ gb400)) (an ((by rw [hg]; exact Nat.ne_of_lt (blk_lt (blk_nw BK360.out)) : gb360 ≠ gb400)) (an ((by rw [hg]; exact Nat.ne_of_gt (blk_lt (blk_nw BK360.out)) : gb400 ≠ gb360)) (an ((by rw [hg]; exact Nat.ne_of_lt (blk_lt (blk_nw BK361.out)) : gb361 ≠ gb400)) (an ((by rw [hg]; exact Nat.ne_of_gt (blk_lt (blk_nw BK361.out)) : gb400 ≠ gb361)) (an ((by rw [hg]; exact Nat.ne_of_lt (blk_lt (blk_nw BK386.out)) : gb386 ≠ gb400)) (an ((by rw [hg]; exact Nat.ne_of_gt (blk_lt (blk_nw BK386.out)) : gb400 ≠ gb386)) (an ((by rw [hg]; exact Nat.ne_of_lt (blk_lt (blk_nw BK395.out)) : gb395 ≠ gb400)) (an ((by rw [hg]; exact Nat.ne_of_gt (blk_lt (blk_nw BK395.out)) : gb400 ≠ gb395)) (trivial))))))))))))))))))))); clear HO366 HO375 HO378 HO389 HO399 BK360 BK361 BK386 BK395 HB; obtain ⟨HO366, HO375, HO378, HO389, HO399, BK360, BK361, BK386, BK395, HB, BK400, GW400, GE400, NB360_400, NB400_360, NB361_400, NB400_361, NB386_400, NB400_386, NB395_400, NB400_395, -⟩ := n_; clear hb hbox hg; have hnb51 := NB400_360.out; have hnc51 := NB360_400.out; have hnb52 := NB400_361.out; have hnc52 := NB361_400.out; have hnb53 := NB400_386.out; have hnc53 := NB386_400.out; have hnb54 := NB400_395.out; have hnc54 := NB395_400.out; obtain ⟨hcz55_0, hcz55_1⟩ := blkz2 BK400.out; have hfz55_0 := blkf BK400.out; obtain ⟨Ao56, co56, eo56⟩ := Kd.R_slice HO399.out; subst eo56; obtain ⟨hcz57_0, hcz57_1, hcz57_2, hcz57_3, hcz57_4, hcz57_5⟩ := blkz6 BK395.out; have hfz57_0 := blkf BK395.out) | ((with_reducible refine gate_callee (f := 66) rfl ?_); refine goesL_ (some 46) rfl rfl Try.func66 (by kernel_rfl) rfl #[.agg #[.slice Ao42 t387.length co42, .int .i64 t390, .int .i64 t391, .int .i64 t392, .int .i64 t393, .int .i64 t394], .agg #[.int .i64 t396, .slice Ao56 t397.length co56]] rfl (by (try simp only [List.map_toArray, List.map_cons, List.map_nil]); first | done | rfl | (simp only [List.length_drop, List.length_take]; rfl)) ?_; (with_reducible refine (impl_ProbeTick.calls k _ _ t387 t390 t391 t392 t393 t394 t396 _ _ t397 t401 t404 t405 t406 t407 t408 t409 t410 _ ?side1 ?side2 ?side3 ?side4 A20.out).mono ?_); (case side1 => refine (Kd.R_reads' (e := 3) (base := w.heap.size) (ok := fun k_ => ((True ∧ some k_ ≠ (v365 : Value).ownBlock) ∧ some k_ ≠ (.slice Ao30 t376.length co30 : Value).ownBlock)) (n := t387.length) (c := co42) ?_).2.2; exact (by exact (Kd.R_farN HO389.out BK400.out))); (case side2 => exact (Kd.R_reads' HO389.out).2.1); (case side3 => refine (Kd.R_reads' (e := 82) (base := w.heap.size) (ok := fun k_ => (True ∧ some k_ ≠ (v374 : Value).ownBlock)) (n := t397.length) (c := co56) ?_).2.2; exact (by exact (Kd.R_farN HO399.out BK400.out))); (case side4 => exact (Kd.R_reads' HO399.out).2.1); rintro e w58 ⟨v402, rfl, ho0, hb⟩; refine ⟨_, rfl, ?_⟩; have n_ := an (Kd.R_elder' (by exact (Kd.R_farN HO366.out BK400.out)) (Kd.R_base ho0) hb) (an (Kd.R_below (by exact (Kd.R_farN HO375.out BK400.out)) hb) (an (Kd.R_elder' (by exact (Kd.R_farN HO378.out BK400.out)) (Kd.R_base ho0) hb) (an (Kd.R_elder' (by exact (Kd.R_farN HO389.out BK400.out)) (Kd.R_base ho0) hb) (an (Kd.R_below (by exact (Kd.R_farN HO399.out BK400.out)) hb) (an (Kd.R_lower (Kd.R_new' (Kd.R_new' (Kd.R_new' ho0 (Kd.R_lt (by exact (Kd.R_farN HO366.out BK400.out)))) (Kd.R_lt (by exact (Kd.R_farN HO378.out BK400.out)))) (Kd.R_lt (by exact (Kd.R_farN HO389.out BK400.out)))) (below_size (by exact bel0))) (an (blk_below (blk_kb BK360.out NB360_400.out) hb) (an (blk_below (blk_kb BK361.out NB361_400.out) hb) (an (blk_below (blk_kb BK386.out NB386_400.out) hb) (an (blk_below (blk_kb BK395.out NB395_400.out) hb) (an (blk_below (g := gb400) (o := .cells #[.int .i64 t396, .slice Ao56 t397.length co56] 41 (0, 0)) (by (with_reducible repeat (first | refine blk_drewN ?_ _ | refine blk_drew ?_ | refine blk_alloc ?_ _)); exact blk_fill2 BK400.out) hb) (an (below_step (by exact bel0) hb) (trivial)))))))))))); clear HO366 HO375 HO378 HO389 HO399 BK360 BK361 BK386 BK395 BK400 HB; obtain ⟨HO366, HO375, HO378, HO389, HO399, HO403, BK360, BK361, BK386, BK395, BK400, HB, -⟩ := n_; (try clear hb); (try clear hb2); (try clear hk); (try clear hi); (try clear ho0)) | ((with_reducible refine gate_dst (N := 11) rfl ?_); refine box_event ?hg (N := 11) ?hd (cs := #[.slice none 0 0, .int .i64 0, .int .i64 0, .int .i64 0, .int .i64 0, .int .i64 0]) (t := 90) ?hr ?_; (case hd => rfl); (case hg => rfl); (case hr => first | (go_simp; done) | (go_simp; rfl)); intro gb411 hg w59 hbox hb; have n_ := an (Kd.R_below (by exact Kd.R_nw HO366.out) hb) (an (Kd.R_below (by exact Kd.R_nw HO375.out) hb) (an (Kd.R_below (by exact Kd.R_nw HO378.out) hb) (an (Kd.R_below (by exact Kd.R_nw HO389.out) hb) (an (Kd.R_below (by exact Kd.R_nw HO399.out) hb) (an (Kd.R_below (by exact Kd.R_nw HO403.out) hb) (an (blk_below (blk_nw BK360.out) hb) (an (blk_below (blk_nw BK361.out) hb) (an (blk_below (blk_nw BK386.out) hb) (an (blk_below (blk_nw BK395.out) hb) (an (blk_below (blk_nw BK400.out) hb) (an (below_step (by exact bel0) hb) (an (hbox) (an ((by rw [hg]; exact (below_size (by exact bel0)) : w.heap.size ≤ gb411)) (an ((by rw [hg]; exact (below_size (by exact bel0)) : w.heap.size ≤ gb411)) (an ((by rw [hg]; exact Nat.ne_of_lt (blk_lt (blk_nw BK360.out)) : gb360 ≠ gb411)) (an ((by rw [hg]; exact Nat.ne_of_gt (blk_lt (blk_nw BK360.out)) : gb411 ≠ gb360)) (an ((by rw [hg]; exact Nat.ne_of_lt (blk_lt (blk_nw BK361.out)) : gb361 ≠ gb411)) (an ((by rw [hg]; exact Nat.ne_of_gt (blk_lt (blk_nw BK361.out)) : gb411 ≠ gb361)) (an ((by rw [hg]; exact Nat.ne_of_lt (blk_lt (blk_nw BK386.out)) : gb386 ≠ gb411)) (an ((by rw [hg]; exact Nat.ne_of_gt (blk_lt (blk_nw BK386.out)) : gb411 ≠ gb386)) (an ((by rw [hg]; exact Nat.ne_of_lt (blk_lt (blk_nw BK395.out)) : gb395 ≠ gb411)) (an ((by rw [hg]; exact Nat.ne_of_gt (blk_lt (blk_nw BK395.out)) : gb411 ≠ gb395)) (an ((by rw [hg]; exact Nat.ne_of_lt (blk_lt (blk_nw BK400.out)) : gb400 ≠ gb411)) (an ((by rw [hg]; exact Nat.ne_of_gt (blk_lt (blk_nw BK400.out)) : gb411 ≠ gb400)) (trivial))))))))))))))))))))))))); clear HO366 HO375 HO378 HO389 HO399 HO403 BK360 BK361 BK386 BK395 BK400 HB; obtain ⟨HO366, HO375, HO378, HO389, HO399, HO403, BK360, BK361, BK386, BK395, BK400, HB, BK411, GW411, GE411, NB360_411, NB411_360, NB361_411, NB411_361, NB386_411, NB411_386, NB395_411, NB411_395, NB400_411, NB411_400, -⟩ := n_; clear hb hbox hg; obtain ⟨Ao60, co60, eo60⟩ := Kd.R_slice HO403.out; subst eo60; have hnb61 := NB411_360.out; have hnc61 := NB360_411.out; have hnb62 := NB411_361.out; have hnc62 := NB361_411.out; have hnb63 := NB411_386.out; have hnc63 := NB386_411.out; have hnb64 := NB411_395.out; have hnc64 := NB395_411.out; have hnb65 := NB411_400.out; have hnc65 := NB400_411.out; obtain ⟨hcz66_0, hcz66_1, hcz66_2, hcz66_3, hcz66_4, hcz66_5⟩ := blkz6 BK411.out; have hfz66_0 := blkf BK411.out))
      (try simp only [Act.put, List.setIfInBounds_toArray, List.set_cons_zero, List.set_cons_succ])
      go_cut [63] (fun v63 wc => ∃ (kq : Nat) (x63_20 : Bool), v63 = .bool x63_20 ∧ Aside0 (laws_FnExactProbeTick.j0 kq t384 t385 t409 t410 x63_20 l0_0 a0_1 a0_2 a0_3 a0_4 a0_5 a1_0 l1_1 t376 t379 t380 t381 t382 t383 t387 t390 t391 t392 t393 t394 t396 t397 t401 t404 t405 t406 t407 t408 = some r) ∧ Aside0 (kq ≤ k) ∧ Aside0 (Kd.R (Kd.int .i64) 3 wc w.heap.size (fun k_ => some k_ ≠ ((.slice Ao42 t387.length co42) : Value).ownBlock ∧ some k_ ≠ ((.slice Ao60 t401.length co60) : Value).ownBlock) (.slice Ao30 t376.length co30) t376) ∧ Aside0 (Kd.R (Kd.int .i64) 3 wc w.heap.size (fun k_ => some k_ ≠ ((.slice Ao30 t376.length co30) : Value).ownBlock ∧ some k_ ≠ ((.slice Ao60 t401.length co60) : Value).ownBlock) (.slice Ao42 t387.length co42) t387) ∧ Aside0 (Kd.R k82 82 wc w.heap.size (fun _ => True) (.slice Ao56 t397.length co56) t397) ∧ Aside0 (Kd.R (Kd.int .i64) 3 wc w.heap.size (fun k_ => some k_ ≠ ((.slice Ao30 t376.length co30) : Value).ownBlock ∧ some k_ ≠ ((.slice Ao42 t387.length co42) : Value).ownBlock) (.slice Ao60 t401.length co60) t401) ∧ Aside0 (wc.heap[gb360]? = some (.cells #[(.slice A0_0 l0_0.length c0_0), .int .i64 a0_1, .int .i64 a0_2, .int .i64 a0_3, .int .i64 a0_4, .int .i64 a0_5] 88 (0, 0))) ∧ Aside0 (wc.heap[gb361]? = some (.cells #[.int .i64 a1_0, (.slice A1_1 l1_1.length c1_1)] 37 (0, 0))) ∧ Aside0 (wc.heap[gb386]? = some (.cells #[(.slice Ao30 t376.length co30), .int .i64 t379, .int .i64 t380, .int .i64 t381, .int .i64 t382, .int .i64 t383] 90 (0, 0))) ∧ Aside0 (wc.heap[gb395]? = some (.cells #[(.slice Ao42 t387.length co42), .int .i64 t390, .int .i64 t391, .int .i64 t392, .int .i64 t393, .int .i64 t394] 90 (0, 0))) ∧ Aside0 (wc.heap[gb400]? = some (.cells #[.int .i64 t396, (.slice Ao56 t397.length co56)] 41 (0, 0))) ∧ Aside0 (wc.heap[gb411]? = some (.cells #[(.slice Ao60 t401.length co60), .int .i64 t404, .int .i64 t405, .int .i64 t406, .int .i64 t407, .int .i64 t408] 90 (0, 0))) ∧ Aside0 (Below w.heap.size w wc))
      case first =>
        have H := HC21.out
        clear HC21
        replace H := Option.bind_eq_some_iff.mp H
        obtain ⟨t412, A670, H⟩ := H
        have A67 := Aside0.mk A670
        clear A670
        have hnb68 := NB411_360.out
        have hnc68 := NB360_411.out
        have hnb69 := NB411_361.out
        have hnc69 := NB361_411.out
        have hnb70 := NB411_386.out
        have hnc70 := NB386_411.out
        have hnb71 := NB411_395.out
        have hnc71 := NB395_411.out
        have hnb72 := NB411_400.out
        have hnc72 := NB400_411.out
        obtain ⟨hcz73_0, hcz73_1, hcz73_2, hcz73_3, hcz73_4, hcz73_5⟩ := blkz6 BK411.out
        have hfz73_0 := blkf BK411.out
        have hnb74 := NB386_360.out
        have hnc74 := NB360_386.out
        have hnb75 := NB386_361.out
        have hnc75 := NB361_386.out
        have hnb76 := NB386_395.out
        have hnc76 := NB395_386.out
        have hnb77 := NB386_400.out
        have hnc77 := NB400_386.out
        obtain ⟨hcz78_0, hcz78_1, hcz78_2, hcz78_3, hcz78_4, hcz78_5⟩ := blkz6 BK386.out
        have hfz78_0 := blkf BK386.out
        replace H := Aside0.mk H
        go_wp2_with (first | ((with_reducible refine gate_callee (f := 60) rfl ?_); refine goesL_ (some 52) rfl rfl Try.func60 (by kernel_rfl) rfl #[.agg #[.slice Ao60 t401.length co60, .int .i64 t404, .int .i64 t405, .int .i64 t406, .int .i64 t407, .int .i64 t408], .agg #[.slice Ao30 t376.length co30, .int .i64 t379, .int .i64 t380, .int .i64 t381, .int .i64 t382, .int .i64 t383]] rfl (by (try simp only [List.map_toArray, List.map_cons, List.map_nil]); first | done | rfl | (simp only [List.length_drop, List.length_take]; rfl)) ?_; (with_reducible refine (laws_eqProber.calls k _ _ t401 t404 t405 t406 t407 t408 _ _ t376 t379 t380 t381 t382 t383 t412 _ ?side1 ?side2 ?side3 ?side4 A67.out).mono ?_); (case side1 => refine (Kd.R_reads' (e := 3) (base := w.heap.size) (ok := fun k_ => (((True ∧ some k_ ≠ (v365 : Value).ownBlock) ∧ some k_ ≠ (.slice Ao30 t376.length co30 : Value).ownBlock) ∧ some k_ ≠ (.slice Ao42 t387.length co42 : Value).ownBlock)) (n := t401.length) (c := co60) ?_).2.2; exact (by exact (Kd.R_farN HO403.out BK411.out))); (case side2 => exact (Kd.R_reads' HO403.out).2.1); (case side3 => refine (Kd.R_reads' (e := 3) (base := w.heap.size) (ok := fun k_ => ((some k_ ≠ (v365 : Value).ownBlock ∧ some k_ ≠ (.slice Ao42 t387.length co42 : Value).ownBlock) ∧ some k_ ≠ (.slice Ao60 t401.length co60 : Value).ownBlock)) (n := t376.length) (c := co30) ?_).2.2; exact (by exact (Kd.R_farN HO378.out BK411.out))); (case side4 => exact (Kd.R_reads' HO378.out).2.1); rintro e w79 ⟨rfl, hb⟩; refine ⟨_, rfl, ?_⟩; have n_ := an (Kd.R_below (by exact (Kd.R_farN HO366.out BK411.out)) hb) (an (Kd.R_below (by exact (Kd.R_farN HO375.out BK411.out)) hb) (an (Kd.R_below (by exact (Kd.R_farN HO378.out BK411.out)) hb) (an (Kd.R_below (by exact (Kd.R_farN HO389.out BK411.out)) hb) (an (Kd.R_below (by exact (Kd.R_farN HO399.out BK411.out)) hb) (an (Kd.R_below (by exact (Kd.R_farN HO403.out BK411.out)) hb) (an (blk_below (blk_kb BK360.out NB360_411.out) hb) (an (blk_below (blk_kb BK361.out NB361_411.out) hb) (an (blk_below (blk_kb BK386.out NB386_411.out) hb) (an (blk_below (blk_kb BK395.out NB395_411.out) hb) (an (blk_below (blk_kb BK400.out NB400_411.out) hb) (an (blk_below (g := gb411) (o := .cells #[.slice Ao60 t401.length co60, .int .i64 t404, .int .i64 t405, .int .i64 t406, .int .i64 t407, .int .i64 t408] 90 (0, 0)) (by (with_reducible repeat (first | refine blk_drewN ?_ _ | refine blk_drew ?_ | refine blk_alloc ?_ _)); exact blk_fill6 BK411.out) hb) (an (below_step (by exact bel0) hb) (trivial))))))))))))); clear HO366 HO375 HO378 HO389 HO399 HO403 BK360 BK361 BK386 BK395 BK400 BK411 HB; obtain ⟨HO366, HO375, HO378, HO389, HO399, HO403, BK360, BK361, BK386, BK395, BK400, BK411, HB, -⟩ := n_; (try clear hb); (try clear hb2); (try clear hk); (try clear hi); refine Stop.out ?_))
        refine Stop.mk ?_
        replace H := H.out
        by_cases c80 : t412 = true
        · subst c80
          rw [if_pos rfl] at H
          by_cases c81 : t409 = t384
          · rw [if_pos c81] at H
            have c81b0 : (t409 == t384) = true := beq_iff_eq.mpr c81
            have c81b1 : (t409 != t384) = false := bne_eq_false_iff_eq.mpr c81
            clear c81
            (first | rw [c81b0] | (simp only [i64_w, i32_w]; rw [c81b0]) | skip)
            have H' := Aside0.mk H
            clear H
            go_wp2
            go_meet
            case rel => exact ⟨_, ((t410 != t385)), (by first | rfl | (simp; done) | (simp [*]; done)), H', ⟨by first | omega | exact Nat.le_refl _⟩, ⟨by exact Kd.R_nw (Kd.R_mono HO378.out (fun _ hk => ⟨hk.1.2, hk.2⟩))⟩, ⟨by exact Kd.R_nw (Kd.R_mono HO389.out (fun _ hk => ⟨hk.1.2, hk.2⟩))⟩, ⟨by exact Kd.R_nw (Kd.R_mono HO399.out (fun _ hk => trivial))⟩, ⟨by exact Kd.R_nw (Kd.R_mono HO403.out (fun _ hk => ⟨hk.1.2, hk.2⟩))⟩, ⟨by exact blk_nw BK360.out⟩, ⟨by exact blk_nw BK361.out⟩, ⟨by exact blk_nw BK386.out⟩, ⟨by exact blk_nw BK395.out⟩, ⟨by exact blk_nw BK400.out⟩, ⟨by exact blk_nw BK411.out⟩, ⟨by exact bel0⟩⟩
          · rw [if_neg c81] at H
            have c81b0 : (t409 == t384) = false := beq_eq_false_iff_ne.mpr c81
            have c81b1 : (t409 != t384) = true := bne_iff_ne.mpr c81
            (first | rw [c81b0] | (simp only [i64_w, i32_w]; rw [c81b0]) | skip)
            have H' := Aside0.mk H
            clear H
            go_wp2
            go_meet
            case rel => exact ⟨_, (true), (by first | rfl | (simp; done) | (simp [*]; done)), H', ⟨by first | omega | exact Nat.le_refl _⟩, ⟨by exact Kd.R_nw (Kd.R_mono HO378.out (fun _ hk => ⟨hk.1.2, hk.2⟩))⟩, ⟨by exact Kd.R_nw (Kd.R_mono HO389.out (fun _ hk => ⟨hk.1.2, hk.2⟩))⟩, ⟨by exact Kd.R_nw (Kd.R_mono HO399.out (fun _ hk => trivial))⟩, ⟨by exact Kd.R_nw (Kd.R_mono HO403.out (fun _ hk => ⟨hk.1.2, hk.2⟩))⟩, ⟨by exact blk_nw BK360.out⟩, ⟨by exact blk_nw BK361.out⟩, ⟨by exact blk_nw BK386.out⟩, ⟨by exact blk_nw BK395.out⟩, ⟨by exact blk_nw BK400.out⟩, ⟨by exact blk_nw BK411.out⟩, ⟨by exact bel0⟩⟩
        · replace c80 := Bool.eq_false_iff.mpr c80
          subst c80
          rw [if_neg (show ¬ (false = true) by decide)] at H
          have H' := Aside0.mk H
          clear H
          go_wp2
          go_meet
          case rel => exact ⟨_, (true), (by first | rfl | (simp; done) | (simp [*]; done)), H', ⟨by first | omega | exact Nat.le_refl _⟩, ⟨by exact Kd.R_nw (Kd.R_mono HO378.out (fun _ hk => ⟨hk.1.2, hk.2⟩))⟩, ⟨by exact Kd.R_nw (Kd.R_mono HO389.out (fun _ hk => ⟨hk.1.2, hk.2⟩))⟩, ⟨by exact Kd.R_nw (Kd.R_mono HO399.out (fun _ hk => trivial))⟩, ⟨by exact Kd.R_nw (Kd.R_mono HO403.out (fun _ hk => ⟨hk.1.2, hk.2⟩))⟩, ⟨by exact blk_nw BK360.out⟩, ⟨by exact blk_nw BK361.out⟩, ⟨by exact blk_nw BK386.out⟩, ⟨by exact blk_nw BK395.out⟩, ⟨by exact blk_nw BK400.out⟩, ⟨by exact blk_nw BK411.out⟩, ⟨by exact bel0⟩⟩
      case rest =>
        clear HC21
        try clear c1
        try clear c2
        try clear p2
        try clear c3
        try clear c4
        try clear c5
        try clear c6
        try clear c7
        try clear c8
        try clear c25
        try clear c37
        try clear c38
        try clear c43
        try clear c44
        try clear c45
        try clear c47
        try clear c51
        try clear c52
        try clear c53
        try clear c54
        try clear c58
        try clear c60
        try clear c61
        try clear c62
        try clear c63
        try clear c64
        try clear c65
        try clear c66
        try clear c68
        try clear c69
        try clear c70
        try clear c71
        try clear c72
        try clear c74
        try clear c75
        try clear c76
        try clear c77
        try clear c80
        try clear c81
        try clear c81b0
        try clear c81b1
        try clear hcz39_0
        try clear hcz39_1
        try clear hcz39_2
        try clear hcz39_3
        try clear hcz39_4
        try clear hcz39_5
        try clear hcz46_0
        try clear hcz46_1
        try clear hcz46_2
        try clear hcz46_3
        try clear hcz46_4
        try clear hcz46_5
        try clear hcz48_0
        try clear hcz48_1
        try clear hcz55_0
        try clear hcz55_1
        try clear hcz57_0
        try clear hcz57_1
        try clear hcz57_2
        try clear hcz57_3
        try clear hcz57_4
        try clear hcz57_5
        try clear hcz66_0
        try clear hcz66_1
        try clear hcz66_2
        try clear hcz66_3
        try clear hcz66_4
        try clear hcz66_5
        try clear hcz73_0
        try clear hcz73_1
        try clear hcz73_2
        try clear hcz73_3
        try clear hcz73_4
        try clear hcz73_5
        try clear hcz78_0
        try clear hcz78_1
        try clear hcz78_2
        try clear hcz78_3
        try clear hcz78_4
        try clear hcz78_5
        try clear hfz39_0
        try clear hfz39_1
        try clear hfz39_2
        try clear hfz39_3
        try clear hfz39_4
        try clear hfz39_5
        try clear hfz46_0
        try clear hfz46_1
        try clear hfz46_2
        try clear hfz46_3
        try clear hfz46_4
        try clear hfz46_5
        try clear hfz48_0
        try clear hfz48_1
        try clear hfz55_0
        try clear hfz55_1
        try clear hfz57_0
        try clear hfz57_1
        try clear hfz57_2
        try clear hfz57_3
        try clear hfz57_4
        try clear hfz57_5
        try clear hfz66_0
        try clear hfz66_1
        try clear hfz66_2
        try clear hfz66_3
        try clear hfz66_4
        try clear hfz66_5
        try clear hfz73_0
        try clear hfz73_1
        try clear hfz73_2
        try clear hfz73_3
        try clear hfz73_4
        try clear hfz73_5
        try clear hfz78_0
        try clear hfz78_1
        try clear hfz78_2
        try clear hfz78_3
        try clear hfz78_4
        try clear hfz78_5
        obtain ⟨kq, x63_20, rfl, HA, HJ20, HO_387000, HO_396000, HO_401001, HO_412000, BK360, BK361, BK386, BK395, BK400, BK411, HB⟩ := hcut
        cases kq with
        | zero => exact absurd HA.out (by simp [laws_FnExactProbeTick.j0])
        | succ kj20 =>
          have H := HA.out
          clear HA
          simp only [laws_FnExactProbeTick.j0] at H
          by_cases c82 : x63_20 = true
          · subst c82
            rw [if_pos rfl] at H
            obtain rfl := Option.some.inj H
            go_wp2
            go_ret
            exact ⟨by first | rfl | (simp [errW_none, errW_some] <;> rfl) | (simp [*, errW_none, errW_some] <;> rfl), by exact bel0⟩
          · replace c82 := Bool.eq_false_iff.mpr c82
            subst c82
            rw [if_neg (show ¬ (false = true) by decide)] at H
            replace H := Option.bind_eq_some_iff.mp H
            obtain ⟨⟨t413, t416, t417, t418, t419, t420⟩, A830, H⟩ := H
            replace H : ((laws_eqProber.f kj20 t387 t390 t391 t392 t393 t394 t413 t416 t417 t418 t419 t420).bind fun t421 => (if t421 = true then ((laws_toTable.f kj20 a1_0 l1_1).bind fun bt422 => ((laws_eqTable.f kj20 t396 t397 bt422.1 bt422.2).bind fun t426 => (if t426 = true then ((laws_markProber.f kj20 t387 t390 t391 t392 t393 t394 1).bind fun bt427 => ((laws_markTable.f kj20 t396 t397 bt427.1).bind fun bt429 => (if bt429.1 < 0 then (laws_FnExactProbeTick.j1 kj20 t384 t385 true l0_0 a0_1 a0_2 a0_3 a0_4 a0_5 a1_0 l1_1 t376 t379 t380 t381 t382 t383 t401 t404 t405 t406 t407 t408) else ((laws_eqProber.f kj20 t401 t404 t405 t406 t407 t408 t376 t379 t380 t381 t382 t383).bind fun t431 => (if t431 = true then (if t409 = t384 then (laws_FnExactProbeTick.j1 kj20 t384 t385 (t410 != t385) l0_0 a0_1 a0_2 a0_3 a0_4 a0_5 a1_0 l1_1 t376 t379 t380 t381 t382 t383 t401 t404 t405 t406 t407 t408) else (laws_FnExactProbeTick.j1 kj20 t384 t385 true l0_0 a0_1 a0_2 a0_3 a0_4 a0_5 a1_0 l1_1 t376 t379 t380 t381 t382 t383 t401 t404 t405 t406 t407 t408)) else (laws_FnExactProbeTick.j1 kj20 t384 t385 true l0_0 a0_1 a0_2 a0_3 a0_4 a0_5 a1_0 l1_1 t376 t379 t380 t381 t382 t383 t401 t404 t405 t406 t407 t408)))))) else (some false)))) else (some false))) = some r := H
            have A83 := Aside0.mk A830
            clear A830
            replace H := Option.bind_eq_some_iff.mp H
            obtain ⟨t421, A840, H⟩ := H
            have A84 := Aside0.mk A840
            clear A840
            replace H := Aside0.mk H
            try go_wp2
            have n_ := an (Kd.R_drew HO_387000.out) (an (Kd.R_drew HO_396000.out) (an (Kd.R_drew HO_401001.out) (an (Kd.R_drew HO_412000.out) (an (blk_drew BK360.out) (an (blk_drew BK361.out) (an (blk_drew BK386.out) (an (blk_drew BK395.out) (an (blk_drew BK400.out) (an (blk_drew BK411.out) (an (below_drew1 HB.out) (trivial)))))))))))
            clear HO_387000 HO_396000 HO_401001 HO_412000 BK360 BK361 BK386 BK395 BK400 BK411 HB
            obtain ⟨HO_387000, HO_396000, HO_401001, HO_412000, BK360, BK361, BK386, BK395, BK400, BK411, HB, -⟩ := n_
            refine start_ (n := 5) (S := fun w' => w'.cell? ⟨gb395, 0, none⟩ = some (.slice Ao42 t387.length co42) ∧ w'.cell? ⟨gb395, 1, none⟩ = some (.int .i64 t390) ∧ w'.cell? ⟨gb395, 2, none⟩ = some (.int .i64 t391) ∧ w'.cell? ⟨gb395, 3, none⟩ = some (.int .i64 t392) ∧ w'.cell? ⟨gb395, 4, none⟩ = some (.int .i64 t393) ∧ w'.cell? ⟨gb395, 5, none⟩ = some (.int .i64 t394) ∧ w'.cell? ⟨gb360, 0, none⟩ = some (.slice A0_0 l0_0.length c0_0) ∧ w'.cell? ⟨gb360, 1, none⟩ = some (.int .i64 a0_1) ∧ w'.cell? ⟨gb360, 2, none⟩ = some (.int .i64 a0_2) ∧ w'.cell? ⟨gb360, 3, none⟩ = some (.int .i64 a0_3) ∧ w'.cell? ⟨gb360, 4, none⟩ = some (.int .i64 a0_4) ∧ w'.cell? ⟨gb360, 5, none⟩ = some (.int .i64 a0_5)) (ds := []) #[false, false, false, false, false] (by kernel_rfl) rfl rfl ⟨(blk_cell BK395.out 0).trans rfl, (blk_cell BK395.out 1).trans rfl, (blk_cell BK395.out 2).trans rfl, (blk_cell BK395.out 3).trans rfl, (blk_cell BK395.out 4).trans rfl, (blk_cell BK395.out 5).trans rfl, (blk_cell BK360.out 0).trans rfl, (blk_cell BK360.out 1).trans rfl, (blk_cell BK360.out 2).trans rfl, (blk_cell BK360.out 3).trans rfl, (blk_cell BK360.out 4).trans rfl, (blk_cell BK360.out 5).trans rfl⟩ (fun hHeld => ?_)
            generalize wc.drew = w85 at HO_387000 HO_396000 HO_401001 HO_412000 BK360 BK361 BK386 BK395 BK400 BK411 HB hHeld ⊢
            refine take_ (i := 0) (N := some 64) (v := ?_) (a' := ?_) #[true, false, false, false, false] rfl rfl (by kernel_rfl) (fun _ _ _ h => h) (Or.inl ⟨by rfl, ?_⟩) hHeld ?_ ?_
            rotate_left
            · rintro w' ⟨s0, s1, s2, s3, s4, s5, s6, s7, s8, s9, s10, s11⟩
              go_simp
              with_reducible rfl
            rotate_left; · simp only [Act.put, List.setIfInBounds_toArray, List.set_cons_zero, List.set_cons_succ, i64_w, i32_w]; rfl
            refine take_ (i := 1) (N := some 65) (v := ?_) (a' := ?_) #[true, true, false, false, false] rfl rfl (by kernel_rfl) (fun _ _ _ h => h) (Or.inl ⟨by rfl, ?_⟩) hHeld ?_ ?_
            rotate_left
            · rintro w' ⟨s0, s1, s2, s3, s4, s5, s6, s7, s8, s9, s10, s11⟩
              go_simp
              with_reducible rfl
            rotate_left; · simp only [Act.put, List.setIfInBounds_toArray, List.set_cons_zero, List.set_cons_succ, i64_w, i32_w]; rfl
            refine one_ (i := 2) (N := some 66) #[true, true, true, false, false] rfl rfl (by kernel_rfl) (by decide) (fun K hK => ?_)
            refine goes_ Try.func58 (by kernel_rfl) rfl #[.agg #[.slice A0_0 l0_0.length c0_0, .int .i64 a0_1, .int .i64 a0_2, .int .i64 a0_3, .int .i64 a0_4, .int .i64 a0_5]] (by rfl) rfl rfl (by (try simp only [List.map_toArray, List.map_cons, List.map_nil]); first | done | rfl | (simp only [List.length_drop, List.length_take]; rfl)) ?_
            with_reducible refine (laws_toProber.calls kj20 _ _ l0_0 a0_1 a0_2 a0_3 a0_4 a0_5 t413 t416 t417 t418 t419 t420 _ ?side1 ?side2 A83.out).mono ?_
            (case side1 => repeat (first | exact (Kd.C_below HR0_0.out HB.out) | (with_reducible refine Kd.C_alloc ?_ _) | (with_reducible refine Kd.C_drewN ?_ _) | (with_reducible refine Kd.C_drew ?_)))
            (case side2 => exact HC0_0.out)
            rintro e w86 ⟨v414, rfl, ho0, hb⟩
            refine ⟨_, rfl, ?_⟩
            have n_ := an (Kd.R_elder' (by exact Kd.R_nw HO_387000.out) (Kd.R_base ho0) hb) (an (Kd.R_elder' (by exact Kd.R_nw HO_396000.out) (Kd.R_base ho0) hb) (an (Kd.R_below (by exact Kd.R_nw HO_401001.out) hb) (an (Kd.R_elder' (by exact Kd.R_nw HO_412000.out) (Kd.R_base ho0) hb) (an (Kd.R_lower (Kd.R_new' (Kd.R_new' (Kd.R_new' ho0 (Kd.R_lt (by exact Kd.R_nw HO_387000.out))) (Kd.R_lt (by exact Kd.R_nw HO_396000.out))) (Kd.R_lt (by exact Kd.R_nw HO_412000.out))) (below_size (by exact bel0))) (an (blk_below (blk_nw BK360.out) hb) (an (blk_below (blk_nw BK361.out) hb) (an (blk_below (blk_nw BK386.out) hb) (an (blk_below (blk_nw BK395.out) hb) (an (blk_below (blk_nw BK400.out) hb) (an (blk_below (blk_nw BK411.out) hb) (an (below_step (by exact bel0) hb) (trivial))))))))))))
            clear HO_387000 HO_396000 HO_401001 HO_412000 BK360 BK361 BK386 BK395 BK400 BK411 HB
            obtain ⟨HO_387000, HO_396000, HO_401001, HO_412000, HO415, BK360, BK361, BK386, BK395, BK400, BK411, HB, -⟩ := n_
            (try clear hb)
            (try clear hb2)
            (try clear hk)
            (try clear hi)
            (try clear ho0)
            obtain ⟨Ao87, co87, eo87⟩ := Kd.R_slice HO415.out
            (first | subst eo87 | (injection eo87 with f1_ f2_ f3_; have f4_ := f1_.symm; have f5_ := f3_.symm; clear f1_ f2_ f3_; subst f4_; subst f5_))
            refine hK.out _ _ ⟨(blk_cell BK395.out 0).trans rfl, (blk_cell BK395.out 1).trans rfl, (blk_cell BK395.out 2).trans rfl, (blk_cell BK395.out 3).trans rfl, (blk_cell BK395.out 4).trans rfl, (blk_cell BK395.out 5).trans rfl, (blk_cell BK360.out 0).trans rfl, (blk_cell BK360.out 1).trans rfl, (blk_cell BK360.out 2).trans rfl, (blk_cell BK360.out 3).trans rfl, (blk_cell BK360.out 4).trans rfl, (blk_cell BK360.out 5).trans rfl⟩ (fun hHeld => ?_)
            clear hK K
            refine norm_ (a' := ?_) ?_ ?_
            rotate_left
            · show Act.put _ (some 66) _ = _
              simp only [Act.put, List.setIfInBounds_toArray, List.set_cons_zero, List.set_cons_succ, i64_w, i32_w]
              rfl
            refine one_ (i := 3) (N := some 67) #[true, true, true, true, false] rfl rfl (by kernel_rfl) (by decide) (fun K hK => ?_)
            refine goes_ Try.func60 (by kernel_rfl) rfl #[.agg #[.slice Ao42 t387.length co42, .int .i64 t390, .int .i64 t391, .int .i64 t392, .int .i64 t393, .int .i64 t394], .agg #[.slice Ao87 t413.length co87, .int .i64 t416, .int .i64 t417, .int .i64 t418, .int .i64 t419, .int .i64 t420]] (by rfl) rfl rfl (by (try simp only [List.map_toArray, List.map_cons, List.map_nil]); first | done | rfl | (simp only [List.length_drop, List.length_take]; rfl)) ?_
            with_reducible refine (laws_eqProber.calls kj20 _ _ t387 t390 t391 t392 t393 t394 _ _ t413 t416 t417 t418 t419 t420 t421 _ ?side1 ?side2 ?side3 ?side4 A84.out).mono ?_
            (case side1 => repeat (first | exact (Kd.R_reads' HO_396000.out).2.2 | (with_reducible refine Kd.C_alloc ?_ _) | (with_reducible refine Kd.C_drewN ?_ _) | (with_reducible refine Kd.C_drew ?_)))
            (case side2 => exact (Kd.R_reads' HO_396000.out).2.1)
            (case side3 => repeat (first | exact (Kd.R_reads' HO415.out).2.2 | (with_reducible refine Kd.C_alloc ?_ _) | (with_reducible refine Kd.C_drewN ?_ _) | (with_reducible refine Kd.C_drew ?_)))
            (case side4 => exact (Kd.R_reads' HO415.out).2.1)
            rintro e w88 ⟨rfl, hb⟩
            refine ⟨_, rfl, ?_⟩
            have n_ := an (Kd.R_below (by exact Kd.R_nw HO_387000.out) hb) (an (Kd.R_below (by exact Kd.R_nw HO_396000.out) hb) (an (Kd.R_below (by exact Kd.R_nw HO_401001.out) hb) (an (Kd.R_below (by exact Kd.R_nw HO_412000.out) hb) (an (Kd.R_below (by exact Kd.R_nw HO415.out) hb) (an (blk_below (blk_nw BK360.out) hb) (an (blk_below (blk_nw BK361.out) hb) (an (blk_below (blk_nw BK386.out) hb) (an (blk_below (blk_nw BK395.out) hb) (an (blk_below (blk_nw BK400.out) hb) (an (blk_below (blk_nw BK411.out) hb) (an (below_step (by exact bel0) hb) (trivial))))))))))))
            clear HO_387000 HO_396000 HO_401001 HO_412000 HO415 BK360 BK361 BK386 BK395 BK400 BK411 HB
            obtain ⟨HO_387000, HO_396000, HO_401001, HO_412000, HO415, BK360, BK361, BK386, BK395, BK400, BK411, HB, -⟩ := n_
            (try clear hb)
            (try clear hb2)
            (try clear hk)
            (try clear hi)
            refine hK.out _ _ ⟨(blk_cell BK395.out 0).trans rfl, (blk_cell BK395.out 1).trans rfl, (blk_cell BK395.out 2).trans rfl, (blk_cell BK395.out 3).trans rfl, (blk_cell BK395.out 4).trans rfl, (blk_cell BK395.out 5).trans rfl, (blk_cell BK360.out 0).trans rfl, (blk_cell BK360.out 1).trans rfl, (blk_cell BK360.out 2).trans rfl, (blk_cell BK360.out 3).trans rfl, (blk_cell BK360.out 4).trans rfl, (blk_cell BK360.out 5).trans rfl⟩ (fun hHeld => ?_)
            clear hK K
            refine norm_ (a' := ?_) ?_ ?_
            rotate_left
            · show Act.put _ (some 67) _ = _
              simp only [Act.put, List.setIfInBounds_toArray, List.set_cons_zero, List.set_cons_succ, i64_w, i32_w]
              rfl
            refine pure_ (i := 4) (N := some 68) (v := ?_) (a' := ?_) #[true, true, true, true, true] rfl rfl (by kernel_rfl) (fun _ _ _ h => h) (Or.inl ⟨by rfl, ?_⟩) ?_ ?_
            rotate_left; · intro w'; go_simp; with_reducible rfl
            rotate_left; · simp only [Act.put, List.setIfInBounds_toArray, List.set_cons_zero, List.set_cons_succ, i64_w, i32_w]; rfl
            refine done_ (by kernel_rfl) ?_
            replace H := H.out
            by_cases c89 : t421 = true
            · subst c89
              rw [if_pos rfl] at H
              replace H := Option.bind_eq_some_iff.mp H
              obtain ⟨⟨t422, t423⟩, A900, H⟩ := H
              replace H : ((laws_eqTable.f kj20 t396 t397 t422 t423).bind fun t426 => (if t426 = true then ((laws_markProber.f kj20 t387 t390 t391 t392 t393 t394 1).bind fun bt427 => ((laws_markTable.f kj20 t396 t397 bt427.1).bind fun bt429 => (if bt429.1 < 0 then (laws_FnExactProbeTick.j1 kj20 t384 t385 true l0_0 a0_1 a0_2 a0_3 a0_4 a0_5 a1_0 l1_1 t376 t379 t380 t381 t382 t383 t401 t404 t405 t406 t407 t408) else ((laws_eqProber.f kj20 t401 t404 t405 t406 t407 t408 t376 t379 t380 t381 t382 t383).bind fun t431 => (if t431 = true then (if t409 = t384 then (laws_FnExactProbeTick.j1 kj20 t384 t385 (t410 != t385) l0_0 a0_1 a0_2 a0_3 a0_4 a0_5 a1_0 l1_1 t376 t379 t380 t381 t382 t383 t401 t404 t405 t406 t407 t408) else (laws_FnExactProbeTick.j1 kj20 t384 t385 true l0_0 a0_1 a0_2 a0_3 a0_4 a0_5 a1_0 l1_1 t376 t379 t380 t381 t382 t383 t401 t404 t405 t406 t407 t408)) else (laws_FnExactProbeTick.j1 kj20 t384 t385 true l0_0 a0_1 a0_2 a0_3 a0_4 a0_5 a1_0 l1_1 t376 t379 t380 t381 t382 t383 t401 t404 t405 t406 t407 t408)))))) else (some false))) = some r := H
              have A90 := Aside0.mk A900
              clear A900
              replace H := Option.bind_eq_some_iff.mp H
              obtain ⟨t426, A910, H⟩ := H
              have A91 := Aside0.mk A910
              clear A910
              replace H := Aside0.mk H
              try go_wp2
              have n_ := an (Kd.R_drew HO_387000.out) (an (Kd.R_drew HO_396000.out) (an (Kd.R_drew HO_401001.out) (an (Kd.R_drew HO_412000.out) (an (Kd.R_drew HO415.out) (an (blk_drew BK360.out) (an (blk_drew BK361.out) (an (blk_drew BK386.out) (an (blk_drew BK395.out) (an (blk_drew BK400.out) (an (blk_drew BK411.out) (an (below_drew1 HB.out) (trivial))))))))))))
              clear HO_387000 HO_396000 HO_401001 HO_412000 HO415 BK360 BK361 BK386 BK395 BK400 BK411 HB
              obtain ⟨HO_387000, HO_396000, HO_401001, HO_412000, HO415, BK360, BK361, BK386, BK395, BK400, BK411, HB, -⟩ := n_
              refine start_ (n := 5) (S := fun w' => w'.cell? ⟨gb400, 0, none⟩ = some (.int .i64 t396) ∧ w'.cell? ⟨gb400, 1, none⟩ = some (.slice Ao56 t397.length co56) ∧ w'.cell? ⟨gb361, 0, none⟩ = some (.int .i64 a1_0) ∧ w'.cell? ⟨gb361, 1, none⟩ = some (.slice A1_1 l1_1.length c1_1)) (ds := []) #[false, false, false, false, false] (by kernel_rfl) rfl rfl ⟨(blk_cell BK400.out 0).trans rfl, (blk_cell BK400.out 1).trans rfl, (blk_cell BK361.out 0).trans rfl, (blk_cell BK361.out 1).trans rfl⟩ (fun hHeld => ?_)
              generalize w88.drew = w92 at HO_387000 HO_396000 HO_401001 HO_412000 HO415 BK360 BK361 BK386 BK395 BK400 BK411 HB hHeld ⊢
              refine take_ (i := 0) (N := some 69) (v := ?_) (a' := ?_) #[true, false, false, false, false] rfl rfl (by kernel_rfl) (fun _ _ _ h => h) (Or.inl ⟨by rfl, ?_⟩) hHeld ?_ ?_
              rotate_left
              · rintro w' ⟨s0, s1, s2, s3⟩
                go_simp
                with_reducible rfl
              rotate_left; · simp only [Act.put, List.setIfInBounds_toArray, List.set_cons_zero, List.set_cons_succ, i64_w, i32_w]; rfl
              refine take_ (i := 1) (N := some 70) (v := ?_) (a' := ?_) #[true, true, false, false, false] rfl rfl (by kernel_rfl) (fun _ _ _ h => h) (Or.inl ⟨by rfl, ?_⟩) hHeld ?_ ?_
              rotate_left
              · rintro w' ⟨s0, s1, s2, s3⟩
                go_simp
                with_reducible rfl
              rotate_left; · simp only [Act.put, List.setIfInBounds_toArray, List.set_cons_zero, List.set_cons_succ, i64_w, i32_w]; rfl
              refine one_ (i := 2) (N := some 71) #[true, true, true, false, false] rfl rfl (by kernel_rfl) (by decide) (fun K hK => ?_)
              refine goes_ Try.func25 (by kernel_rfl) rfl #[.agg #[.int .i64 a1_0, .slice A1_1 l1_1.length c1_1]] (by rfl) rfl rfl (by (try simp only [List.map_toArray, List.map_cons, List.map_nil]); first | done | rfl | (simp only [List.length_drop, List.length_take]; rfl)) ?_
              with_reducible refine (laws_toTable.calls kj20 a1_0 _ _ l1_1 t422 t423 _ ?side1 ?side2 A90.out).mono ?_
              (case side1 => repeat (first | exact (Kd.C_below HR1_1.out HB.out) | (with_reducible refine Kd.C_alloc ?_ _) | (with_reducible refine Kd.C_drewN ?_ _) | (with_reducible refine Kd.C_drew ?_)))
              (case side2 => exact HC1_1.out)
              rintro e w93 ⟨v424, rfl, ho0, hb⟩
              refine ⟨_, rfl, ?_⟩
              have n_ := an (Kd.R_below (by exact Kd.R_nw HO_387000.out) hb) (an (Kd.R_below (by exact Kd.R_nw HO_396000.out) hb) (an (Kd.R_elder' (by exact Kd.R_nw HO_401001.out) (Kd.R_base ho0) hb) (an (Kd.R_below (by exact Kd.R_nw HO_412000.out) hb) (an (Kd.R_below (by exact Kd.R_nw HO415.out) hb) (an (Kd.R_lower (Kd.R_new' ho0 (Kd.R_lt (by exact Kd.R_nw HO_401001.out))) (below_size (by exact bel0))) (an (blk_below (blk_nw BK360.out) hb) (an (blk_below (blk_nw BK361.out) hb) (an (blk_below (blk_nw BK386.out) hb) (an (blk_below (blk_nw BK395.out) hb) (an (blk_below (blk_nw BK400.out) hb) (an (blk_below (blk_nw BK411.out) hb) (an (below_step (by exact bel0) hb) (trivial)))))))))))))
              clear HO_387000 HO_396000 HO_401001 HO_412000 HO415 BK360 BK361 BK386 BK395 BK400 BK411 HB
              obtain ⟨HO_387000, HO_396000, HO_401001, HO_412000, HO415, HO425, BK360, BK361, BK386, BK395, BK400, BK411, HB, -⟩ := n_
              (try clear hb)
              (try clear hb2)
              (try clear hk)
              (try clear hi)
              (try clear ho0)
              obtain ⟨Ao94, co94, eo94⟩ := Kd.R_slice HO425.out
              (first | subst eo94 | (injection eo94 with f1_ f2_ f3_; have f4_ := f1_.symm; have f5_ := f3_.symm; clear f1_ f2_ f3_; subst f4_; subst f5_))
              refine hK.out _ _ ⟨(blk_cell BK400.out 0).trans rfl, (blk_cell BK400.out 1).trans rfl, (blk_cell BK361.out 0).trans rfl, (blk_cell BK361.out 1).trans rfl⟩ (fun hHeld => ?_)
              clear hK K
              refine norm_ (a' := ?_) ?_ ?_
              rotate_left
              · show Act.put _ (some 71) _ = _
                simp only [Act.put, List.setIfInBounds_toArray, List.set_cons_zero, List.set_cons_succ, i64_w, i32_w]
                rfl
              refine one_ (i := 3) (N := some 72) #[true, true, true, true, false] rfl rfl (by kernel_rfl) (by decide) (fun K hK => ?_)
              refine goes_ Try.func27 (by kernel_rfl) rfl #[.agg #[.int .i64 t396, .slice Ao56 t397.length co56], .agg #[.int .i64 t422, .slice Ao94 t423.length co94]] (by rfl) rfl rfl (by (try simp only [List.map_toArray, List.map_cons, List.map_nil]); first | done | rfl | (simp only [List.length_drop, List.length_take]; rfl)) ?_
              with_reducible refine (laws_eqTable.calls kj20 t396 _ _ t397 t422 _ _ t423 t426 _ ?side1 ?side2 ?side3 ?side4 A91.out).mono ?_
              (case side1 => repeat (first | exact (Kd.R_reads' HO_401001.out).2.2 | (with_reducible refine Kd.C_alloc ?_ _) | (with_reducible refine Kd.C_drewN ?_ _) | (with_reducible refine Kd.C_drew ?_)))
              (case side2 => exact (Kd.R_reads' HO_401001.out).2.1)
              (case side3 => repeat (first | exact (Kd.R_reads' HO425.out).2.2 | (with_reducible refine Kd.C_alloc ?_ _) | (with_reducible refine Kd.C_drewN ?_ _) | (with_reducible refine Kd.C_drew ?_)))
              (case side4 => exact (Kd.R_reads' HO425.out).2.1)
              rintro e w95 ⟨rfl, hb⟩
              refine ⟨_, rfl, ?_⟩
              have n_ := an (Kd.R_below (by exact Kd.R_nw HO_387000.out) hb) (an (Kd.R_below (by exact Kd.R_nw HO_396000.out) hb) (an (Kd.R_below (by exact Kd.R_nw HO_401001.out) hb) (an (Kd.R_below (by exact Kd.R_nw HO_412000.out) hb) (an (Kd.R_below (by exact Kd.R_nw HO415.out) hb) (an (Kd.R_below (by exact Kd.R_nw HO425.out) hb) (an (blk_below (blk_nw BK360.out) hb) (an (blk_below (blk_nw BK361.out) hb) (an (blk_below (blk_nw BK386.out) hb) (an (blk_below (blk_nw BK395.out) hb) (an (blk_below (blk_nw BK400.out) hb) (an (blk_below (blk_nw BK411.out) hb) (an (below_step (by exact bel0) hb) (trivial)))))))))))))
              clear HO_387000 HO_396000 HO_401001 HO_412000 HO415 HO425 BK360 BK361 BK386 BK395 BK400 BK411 HB
              obtain ⟨HO_387000, HO_396000, HO_401001, HO_412000, HO415, HO425, BK360, BK361, BK386, BK395, BK400, BK411, HB, -⟩ := n_
              (try clear hb)
              (try clear hb2)
              (try clear hk)
              (try clear hi)
              refine hK.out _ _ ⟨(blk_cell BK400.out 0).trans rfl, (blk_cell BK400.out 1).trans rfl, (blk_cell BK361.out 0).trans rfl, (blk_cell BK361.out 1).trans rfl⟩ (fun hHeld => ?_)
              clear hK K
              refine norm_ (a' := ?_) ?_ ?_
              rotate_left
              · show Act.put _ (some 72) _ = _
                simp only [Act.put, List.setIfInBounds_toArray, List.set_cons_zero, List.set_cons_succ, i64_w, i32_w]
                rfl
              refine pure_ (i := 4) (N := some 73) (v := ?_) (a' := ?_) #[true, true, true, true, true] rfl rfl (by kernel_rfl) (fun _ _ _ h => h) (Or.inl ⟨by rfl, ?_⟩) ?_ ?_
              rotate_left; · intro w'; go_simp; with_reducible rfl
              rotate_left; · simp only [Act.put, List.setIfInBounds_toArray, List.set_cons_zero, List.set_cons_succ, i64_w, i32_w]; rfl
              refine done_ (by kernel_rfl) ?_
              replace H := H.out
              by_cases c96 : t426 = true
              · subst c96
                rw [if_pos rfl] at H
                replace H := Option.bind_eq_some_iff.mp H
                obtain ⟨⟨t427, t428⟩, A970, H⟩ := H
                replace H : ((laws_markTable.f kj20 t396 t397 t427).bind fun bt429 => (if bt429.1 < 0 then (laws_FnExactProbeTick.j1 kj20 t384 t385 true l0_0 a0_1 a0_2 a0_3 a0_4 a0_5 a1_0 l1_1 t376 t379 t380 t381 t382 t383 t401 t404 t405 t406 t407 t408) else ((laws_eqProber.f kj20 t401 t404 t405 t406 t407 t408 t376 t379 t380 t381 t382 t383).bind fun t431 => (if t431 = true then (if t409 = t384 then (laws_FnExactProbeTick.j1 kj20 t384 t385 (t410 != t385) l0_0 a0_1 a0_2 a0_3 a0_4 a0_5 a1_0 l1_1 t376 t379 t380 t381 t382 t383 t401 t404 t405 t406 t407 t408) else (laws_FnExactProbeTick.j1 kj20 t384 t385 true l0_0 a0_1 a0_2 a0_3 a0_4 a0_5 a1_0 l1_1 t376 t379 t380 t381 t382 t383 t401 t404 t405 t406 t407 t408)) else (laws_FnExactProbeTick.j1 kj20 t384 t385 true l0_0 a0_1 a0_2 a0_3 a0_4 a0_5 a1_0 l1_1 t376 t379 t380 t381 t382 t383 t401 t404 t405 t406 t407 t408))))) = some r := H
                have A97 := Aside0.mk A970
                clear A970
                replace H := Option.bind_eq_some_iff.mp H
                obtain ⟨⟨t429, t430⟩, A980, H⟩ := H
                replace H : (if t429 < 0 then (laws_FnExactProbeTick.j1 kj20 t384 t385 true l0_0 a0_1 a0_2 a0_3 a0_4 a0_5 a1_0 l1_1 t376 t379 t380 t381 t382 t383 t401 t404 t405 t406 t407 t408) else ((laws_eqProber.f kj20 t401 t404 t405 t406 t407 t408 t376 t379 t380 t381 t382 t383).bind fun t431 => (if t431 = true then (if t409 = t384 then (laws_FnExactProbeTick.j1 kj20 t384 t385 (t410 != t385) l0_0 a0_1 a0_2 a0_3 a0_4 a0_5 a1_0 l1_1 t376 t379 t380 t381 t382 t383 t401 t404 t405 t406 t407 t408) else (laws_FnExactProbeTick.j1 kj20 t384 t385 true l0_0 a0_1 a0_2 a0_3 a0_4 a0_5 a1_0 l1_1 t376 t379 t380 t381 t382 t383 t401 t404 t405 t406 t407 t408)) else (laws_FnExactProbeTick.j1 kj20 t384 t385 true l0_0 a0_1 a0_2 a0_3 a0_4 a0_5 a1_0 l1_1 t376 t379 t380 t381 t382 t383 t401 t404 t405 t406 t407 t408)))) = some r := H
                have A98 := Aside0.mk A980
                clear A980
                have HC99 := Aside0.mk H
                clear H
                have hnb100 := NB395_360.out
                have hnc100 := NB360_395.out
                have hnb101 := NB395_361.out
                have hnc101 := NB361_395.out
                have hnb102 := NB395_386.out
                have hnc102 := NB386_395.out
                have hnb103 := NB395_400.out
                have hnc103 := NB400_395.out
                have hnb104 := NB395_411.out
                have hnc104 := NB411_395.out
                obtain ⟨hcz105_0, hcz105_1, hcz105_2, hcz105_3, hcz105_4, hcz105_5⟩ := blkz6 BK395.out
                have hfz105_0 := blkf BK395.out
                go_upto_region 21 with (first | ((with_reducible refine gate_callee (f := 61) rfl ?_); refine goesL_ (some 76) rfl rfl Try.func61 (by kernel_rfl) rfl #[.agg #[.slice Ao42 t387.length co42, .int .i64 t390, .int .i64 t391, .int .i64 t392, .int .i64 t393, .int .i64 t394], .int .i64 1] rfl (by (try simp only [List.map_toArray, List.map_cons, List.map_nil]); first | done | rfl | (simp only [List.length_drop, List.length_take]; rfl)) ?_; (with_reducible refine (laws_markProber.calls kj20 (fun k_ => some k_ = (.slice Ao42 t387.length co42 : Value).ownBlock) (.slice Ao42 t387.length co42) t387 t390 t391 t392 t393 t394 1 t427 t428 w _ ?side1 ?side2 A97.out).mono ?_); (case side1 => exact bel0); (case side2 => exact Kd.R_tight rfl HO_396000.out); rintro e w106 ⟨rfl, hy0, hb, hkp⟩; refine ⟨_, rfl, ?_⟩; have n_ := an (Kd.R_mono (ok' := fun k_ => some k_ ≠ (.slice Ao42 t387.length co42 : Value).ownBlock ∧ some k_ ≠ (.slice Ao60 t401.length co60 : Value).ownBlock ∧ some k_ ≠ (.slice Ao87 t413.length co87 : Value).ownBlock) (Kd.R_keptB (HO_387000.out) hkp (fun k_ hk_ hs_ => (hk_.1.1) hs_)) (fun k_ hk_ => ⟨hk_.1.1.1, hk_.1.1.2, hk_.1.2⟩)) (an (Kd.R_reok rfl hy0 (fun k_ e_ => HO_396000.out.1 k_ e_)) (an (Kd.R_mono (ok' := fun k_ => some k_ ≠ (.slice Ao94 t423.length co94 : Value).ownBlock) (Kd.R_keptB ((Kd.R_apart' HO_401001.out (Kd.R_typed HO_396000.out) (by decide))) hkp (fun k_ hk_ hs_ => (hk_.2) hs_)) (fun k_ hk_ => hk_.1.1.2)) (an (Kd.R_mono (ok' := fun k_ => some k_ ≠ (.slice Ao30 t376.length co30 : Value).ownBlock ∧ some k_ ≠ (.slice Ao42 t387.length co42 : Value).ownBlock ∧ some k_ ≠ (.slice Ao87 t413.length co87 : Value).ownBlock) (Kd.R_keptB (HO_412000.out) hkp (fun k_ hk_ hs_ => (hk_.1.2) hs_)) (fun k_ hk_ => ⟨hk_.1.1.1, hk_.1.1.2, hk_.1.2⟩)) (an (blk_kept (by exact blk_nw BK360.out) hkp (fun hs_ => (fun e_ => (Kd.R_ne HO_396000.out BK360.out (by decide)) e_) hs_)) (an (blk_kept (by exact blk_nw BK361.out) hkp (fun hs_ => (fun e_ => (Kd.R_ne HO_396000.out BK361.out (by decide)) e_) hs_)) (an (blk_kept (by exact blk_nw BK386.out) hkp (fun hs_ => (fun e_ => (Kd.R_ne HO_396000.out BK386.out (by decide)) e_) hs_)) (an (blk_kept (by exact blk_nw BK395.out) hkp (fun hs_ => (fun e_ => (Kd.R_ne HO_396000.out BK395.out (by decide)) e_) hs_)) (an (blk_kept (by exact blk_nw BK400.out) hkp (fun hs_ => (fun e_ => (Kd.R_ne HO_396000.out BK400.out (by decide)) e_) hs_)) (an (blk_kept (by exact blk_nw BK411.out) hkp (fun hs_ => (fun e_ => (Kd.R_ne HO_396000.out BK411.out (by decide)) e_) hs_)) (an (Kd.R_mono (ok' := fun k_ => some k_ ≠ (.slice Ao30 t376.length co30 : Value).ownBlock ∧ some k_ ≠ (.slice Ao42 t387.length co42 : Value).ownBlock ∧ some k_ ≠ (.slice Ao60 t401.length co60 : Value).ownBlock) (Kd.R_keptB (HO415.out) hkp (fun k_ hk_ hs_ => (hk_.1.2) hs_)) (fun k_ hk_ => ⟨hk_.1.1.1.2, hk_.1.1.2, hk_.1.2⟩)) (an (Kd.R_mono (ok' := fun k_ => some k_ ≠ (.slice Ao56 t397.length co56 : Value).ownBlock) (Kd.R_keptB ((Kd.R_apart' HO425.out (Kd.R_typed HO_396000.out) (by decide))) hkp (fun k_ hk_ hs_ => (hk_.2) hs_)) (fun k_ hk_ => hk_.1.1.2)) (an (hb) (trivial))))))))))))); clear HO_387000 HO_396000 HO_401001 HO_412000 BK360 BK361 BK386 BK395 BK400 BK411 HO415 HO425 HB; obtain ⟨HO_387000, HO_396000, HO_401001, HO_412000, BK360, BK361, BK386, BK395, BK400, BK411, HO415, HO425, HB, -⟩ := n_; (try clear hb); (try clear hkp); (try clear hy0); have hnb107 := NB400_360.out; have hnc107 := NB360_400.out; have hnb108 := NB400_361.out; have hnc108 := NB361_400.out; have hnb109 := NB400_386.out; have hnc109 := NB386_400.out; have hnb110 := NB400_411.out; have hnc110 := NB411_400.out; obtain ⟨hcz111_0, hcz111_1⟩ := blkz2 BK400.out; have hfz111_0 := blkf BK400.out) | ((with_reducible refine gate_callee (f := 28) rfl ?_); refine goesL_ (some 79) rfl rfl Try.func28 (by kernel_rfl) rfl #[.agg #[.int .i64 t396, .slice Ao56 t397.length co56], .int .i64 t427] rfl (by (try simp only [List.map_toArray, List.map_cons, List.map_nil]); first | done | rfl | (simp only [List.length_drop, List.length_take]; rfl)) ?_; (with_reducible refine (laws_markTable.calls kj20 t396 (fun k_ => some k_ = (.slice Ao56 t397.length co56 : Value).ownBlock) (.slice Ao56 t397.length co56) t397 t427 t429 t430 w _ ?side1 ?side2 A98.out).mono ?_); (case side1 => exact bel0); (case side2 => exact Kd.R_tight rfl HO_401001.out); rintro e w112 ⟨rfl, hy0, hb, hkp⟩; refine ⟨_, rfl, ?_⟩; have n_ := an (Kd.R_mono (ok' := fun k_ => some k_ ≠ (.slice Ao42 t387.length co42 : Value).ownBlock ∧ some k_ ≠ (.slice Ao60 t401.length co60 : Value).ownBlock ∧ some k_ ≠ (.slice Ao87 t413.length co87 : Value).ownBlock) (Kd.R_keptB ((Kd.R_apart' HO_387000.out (Kd.R_typed HO_401001.out) (by decide))) hkp (fun k_ hk_ hs_ => (hk_.2) hs_)) (fun k_ hk_ => ⟨hk_.1.1.1, hk_.1.1.2.1, hk_.1.1.2.2⟩)) (an (Kd.R_mono (ok' := fun k_ => some k_ ≠ (.slice Ao30 t376.length co30 : Value).ownBlock ∧ some k_ ≠ (.slice Ao60 t401.length co60 : Value).ownBlock ∧ some k_ ≠ (.slice Ao87 t413.length co87 : Value).ownBlock) (Kd.R_keptB ((Kd.R_apart' HO_396000.out (Kd.R_typed HO_401001.out) (by decide))) hkp (fun k_ hk_ hs_ => (hk_.2) hs_)) (fun k_ hk_ => ⟨hk_.1.1.1.1, hk_.1.1.1.2, hk_.1.1.2⟩)) (an (Kd.R_reok rfl hy0 (fun k_ e_ => HO_401001.out.1 k_ e_)) (an (Kd.R_mono (ok' := fun k_ => some k_ ≠ (.slice Ao30 t376.length co30 : Value).ownBlock ∧ some k_ ≠ (.slice Ao42 t387.length co42 : Value).ownBlock ∧ some k_ ≠ (.slice Ao87 t413.length co87 : Value).ownBlock) (Kd.R_keptB ((Kd.R_apart' HO_412000.out (Kd.R_typed HO_401001.out) (by decide))) hkp (fun k_ hk_ hs_ => (hk_.2) hs_)) (fun k_ hk_ => ⟨hk_.1.1.1, hk_.1.1.2.1, hk_.1.1.2.2⟩)) (an (blk_kept (by exact blk_nw BK360.out) hkp (fun hs_ => (fun e_ => (Kd.R_ne HO_401001.out BK360.out (by decide)) e_) hs_)) (an (blk_kept (by exact blk_nw BK361.out) hkp (fun hs_ => (fun e_ => (Kd.R_ne HO_401001.out BK361.out (by decide)) e_) hs_)) (an (blk_kept (by exact blk_nw BK386.out) hkp (fun hs_ => (fun e_ => (Kd.R_ne HO_401001.out BK386.out (by decide)) e_) hs_)) (an (blk_kept (by exact blk_nw BK395.out) hkp (fun hs_ => (fun e_ => (Kd.R_ne HO_401001.out BK395.out (by decide)) e_) hs_)) (an (blk_kept (by exact blk_nw BK400.out) hkp (fun hs_ => (fun e_ => (Kd.R_ne HO_401001.out BK400.out (by decide)) e_) hs_)) (an (blk_kept (by exact blk_nw BK411.out) hkp (fun hs_ => (fun e_ => (Kd.R_ne HO_401001.out BK411.out (by decide)) e_) hs_)) (an (Kd.R_mono (ok' := fun k_ => some k_ ≠ (.slice Ao30 t376.length co30 : Value).ownBlock ∧ some k_ ≠ (.slice Ao42 t387.length co42 : Value).ownBlock ∧ some k_ ≠ (.slice Ao60 t401.length co60 : Value).ownBlock) (Kd.R_keptB ((Kd.R_apart' HO415.out (Kd.R_typed HO_401001.out) (by decide))) hkp (fun k_ hk_ hs_ => (hk_.2) hs_)) (fun k_ hk_ => ⟨hk_.1.1.1, hk_.1.1.2.1, hk_.1.1.2.2⟩)) (an (Kd.R_mono (ok' := fun k_ => some k_ ≠ (.slice Ao56 t397.length co56 : Value).ownBlock) (Kd.R_keptB (HO425.out) hkp (fun k_ hk_ hs_ => (hk_) hs_)) (fun k_ hk_ => hk_.1)) (an (hb) (trivial))))))))))))); clear HO_387000 HO_396000 HO_401001 HO_412000 BK360 BK361 BK386 BK395 BK400 BK411 HO415 HO425 HB; obtain ⟨HO_387000, HO_396000, HO_401001, HO_412000, BK360, BK361, BK386, BK395, BK400, BK411, HO415, HO425, HB, -⟩ := n_; (try clear hb); (try clear hkp); (try clear hy0)))
                (try simp only [Act.put, List.setIfInBounds_toArray, List.set_cons_zero, List.set_cons_succ])
                go_cut [97] (fun v97 wc => ∃ (kq : Nat) (x97_98 : Bool), v97 = .bool x97_98 ∧ Aside0 (laws_FnExactProbeTick.j1 kq t384 t385 x97_98 l0_0 a0_1 a0_2 a0_3 a0_4 a0_5 a1_0 l1_1 t376 t379 t380 t381 t382 t383 t401 t404 t405 t406 t407 t408 = some r) ∧ Aside0 (kq ≤ kj20) ∧ Aside0 (Kd.R (Kd.int .i64) 3 wc w.heap.size (fun k_ => some k_ ≠ ((.slice Ao42 t387.length co42) : Value).ownBlock ∧ some k_ ≠ ((.slice Ao60 t401.length co60) : Value).ownBlock) (.slice Ao30 t376.length co30) t376) ∧ Aside0 (Kd.R (Kd.int .i64) 3 wc w.heap.size (fun k_ => some k_ ≠ ((.slice Ao30 t376.length co30) : Value).ownBlock ∧ some k_ ≠ ((.slice Ao60 t401.length co60) : Value).ownBlock) (.slice Ao42 t387.length co42) t428) ∧ Aside0 (Kd.R k82 82 wc w.heap.size (fun _ => True) (.slice Ao56 t397.length co56) t430) ∧ Aside0 (Kd.R (Kd.int .i64) 3 wc w.heap.size (fun k_ => some k_ ≠ ((.slice Ao30 t376.length co30) : Value).ownBlock ∧ some k_ ≠ ((.slice Ao42 t387.length co42) : Value).ownBlock) (.slice Ao60 t401.length co60) t401) ∧ Aside0 (wc.heap[gb360]? = some (.cells #[(.slice A0_0 l0_0.length c0_0), .int .i64 a0_1, .int .i64 a0_2, .int .i64 a0_3, .int .i64 a0_4, .int .i64 a0_5] 88 (0, 0))) ∧ Aside0 (wc.heap[gb361]? = some (.cells #[.int .i64 a1_0, (.slice A1_1 l1_1.length c1_1)] 37 (0, 0))) ∧ Aside0 (wc.heap[gb386]? = some (.cells #[(.slice Ao30 t376.length co30), .int .i64 t379, .int .i64 t380, .int .i64 t381, .int .i64 t382, .int .i64 t383] 90 (0, 0))) ∧ Aside0 (wc.heap[gb395]? = some (.cells #[(.slice Ao42 t387.length co42), .int .i64 t390, .int .i64 t391, .int .i64 t392, .int .i64 t393, .int .i64 t394] 90 (0, 0))) ∧ Aside0 (wc.heap[gb400]? = some (.cells #[.int .i64 t396, (.slice Ao56 t397.length co56)] 41 (0, 0))) ∧ Aside0 (wc.heap[gb411]? = some (.cells #[(.slice Ao60 t401.length co60), .int .i64 t404, .int .i64 t405, .int .i64 t406, .int .i64 t407, .int .i64 t408] 90 (0, 0))) ∧ Aside0 (Below w.heap.size w wc))
                case first =>
                  have H := HC99.out
                  clear HC99
                  by_cases c113 : t429 < 0
                  · rw [if_pos c113] at H
                    have c113b0 : decide (t429 < 0) = true := decide_eq_true c113
                    clear c113
                    (try simp only [c113b0])
                    (first | rw [c113b0] | (simp only [i64_w, i32_w]; rw [c113b0]) | skip)
                    have H' := Aside0.mk H
                    clear H
                    go_wp2
                    go_meet
                    case rel => exact ⟨_, (true), (by first | rfl | (simp; done) | (simp [*]; done)), H', ⟨by have := HJ20.out; first | omega | exact Nat.le_refl _⟩, ⟨by exact Kd.R_nw (Kd.R_mono HO_387000.out (fun _ hk => ⟨hk.1, hk.2.1⟩))⟩, ⟨by exact Kd.R_nw (Kd.R_mono HO_396000.out (fun _ hk => ⟨hk.1, hk.2.1⟩))⟩, ⟨by exact Kd.R_nw (Kd.R_mono HO_401001.out (fun _ hk => trivial))⟩, ⟨by exact Kd.R_nw (Kd.R_mono HO_412000.out (fun _ hk => ⟨hk.1, hk.2.1⟩))⟩, ⟨by exact blk_nw BK360.out⟩, ⟨by exact blk_nw BK361.out⟩, ⟨by exact blk_nw BK386.out⟩, ⟨by exact blk_nw BK395.out⟩, ⟨by exact blk_nw BK400.out⟩, ⟨by exact blk_nw BK411.out⟩, ⟨by exact bel0⟩⟩
                  · rw [if_neg c113] at H
                    have c113b0 : decide (t429 < 0) = false := decide_eq_false c113
                    clear c113
                    (try simp only [c113b0])
                    (first | rw [c113b0] | (simp only [i64_w, i32_w]; rw [c113b0]) | skip)
                    replace H := Option.bind_eq_some_iff.mp H
                    obtain ⟨t431, A1140, H⟩ := H
                    have A114 := Aside0.mk A1140
                    clear A1140
                    have hnb115 := NB411_360.out
                    have hnc115 := NB360_411.out
                    have hnb116 := NB411_361.out
                    have hnc116 := NB361_411.out
                    have hnb117 := NB411_386.out
                    have hnc117 := NB386_411.out
                    have hnb118 := NB411_395.out
                    have hnc118 := NB395_411.out
                    have hnb119 := NB411_400.out
                    have hnc119 := NB400_411.out
                    obtain ⟨hcz120_0, hcz120_1, hcz120_2, hcz120_3, hcz120_4, hcz120_5⟩ := blkz6 BK411.out
                    have hfz120_0 := blkf BK411.out
                    have hnb121 := NB386_360.out
                    have hnc121 := NB360_386.out
                    have hnb122 := NB386_361.out
                    have hnc122 := NB361_386.out
                    have hnb123 := NB386_395.out
                    have hnc123 := NB395_386.out
                    have hnb124 := NB386_400.out
                    have hnc124 := NB400_386.out
                    obtain ⟨hcz125_0, hcz125_1, hcz125_2, hcz125_3, hcz125_4, hcz125_5⟩ := blkz6 BK386.out
                    have hfz125_0 := blkf BK386.out
                    replace H := Aside0.mk H
                    go_wp2_with (first | (go_at_call 60; (with_reducible refine (laws_eqProber.calls kj20 _ _ t401 t404 t405 t406 t407 t408 _ _ t376 t379 t380 t381 t382 t383 t431 _ ?side1 ?side2 ?side3 ?side4 A114.out).mono ?_); (case side1 => repeat (first | exact (Kd.R_reads' HO_412000.out).2.2 | (with_reducible refine Kd.C_alloc ?_ _) | (with_reducible refine Kd.C_drewN ?_ _) | (with_reducible refine Kd.C_drew ?_))); (case side2 => exact (Kd.R_reads' HO_412000.out).2.1); (case side3 => repeat (first | exact (Kd.R_reads' HO_387000.out).2.2 | (with_reducible refine Kd.C_alloc ?_ _) | (with_reducible refine Kd.C_drewN ?_ _) | (with_reducible refine Kd.C_drew ?_))); (case side4 => exact (Kd.R_reads' HO_387000.out).2.1); rintro e w126 ⟨rfl, hb⟩; have n_ := an (Kd.R_below (by exact Kd.R_nw HO_387000.out) hb) (an (Kd.R_below (by exact Kd.R_nw HO_396000.out) hb) (an (Kd.R_below (by exact Kd.R_nw HO_401001.out) hb) (an (Kd.R_below (by exact Kd.R_nw HO_412000.out) hb) (an (Kd.R_below (by exact Kd.R_nw HO415.out) hb) (an (Kd.R_below (by exact Kd.R_nw HO425.out) hb) (an (blk_below (blk_nw BK360.out) hb) (an (blk_below (blk_nw BK361.out) hb) (an (blk_below (blk_nw BK386.out) hb) (an (blk_below (blk_nw BK395.out) hb) (an (blk_below (blk_nw BK400.out) hb) (an (blk_below (blk_nw BK411.out) hb) (an (below_step (by exact bel0) hb) (trivial))))))))))))); clear HO_387000 HO_396000 HO_401001 HO_412000 HO415 HO425 BK360 BK361 BK386 BK395 BK400 BK411 HB; obtain ⟨HO_387000, HO_396000, HO_401001, HO_412000, HO415, HO425, BK360, BK361, BK386, BK395, BK400, BK411, HB, -⟩ := n_; (try clear hb); (try clear hb2); (try clear hk); (try clear hi); refine Stop.out ?_))
                    refine Stop.mk ?_
                    replace H := H.out
                    by_cases c127 : t431 = true
                    · subst c127
                      rw [if_pos rfl] at H
                      by_cases c128 : t409 = t384
                      · rw [if_pos c128] at H
                        have c128b0 : (t409 == t384) = true := beq_iff_eq.mpr c128
                        have c128b1 : (t409 != t384) = false := bne_eq_false_iff_eq.mpr c128
                        clear c128
                        have H' := Aside0.mk H
                        clear H
                        go_wp2
                        go_meet
                        case rel => exact ⟨_, ((t410 != t385)), (by first | rfl | (simp; done) | (simp [*]; done)), H', ⟨by have := HJ20.out; first | omega | exact Nat.le_refl _⟩, ⟨by exact Kd.R_nw (Kd.R_mono HO_387000.out (fun _ hk => ⟨hk.1, hk.2.1⟩))⟩, ⟨by exact Kd.R_nw (Kd.R_mono HO_396000.out (fun _ hk => ⟨hk.1, hk.2.1⟩))⟩, ⟨by exact Kd.R_nw (Kd.R_mono HO_401001.out (fun _ hk => trivial))⟩, ⟨by exact Kd.R_nw (Kd.R_mono HO_412000.out (fun _ hk => ⟨hk.1, hk.2.1⟩))⟩, ⟨by exact blk_nw BK360.out⟩, ⟨by exact blk_nw BK361.out⟩, ⟨by exact blk_nw BK386.out⟩, ⟨by exact blk_nw BK395.out⟩, ⟨by exact blk_nw BK400.out⟩, ⟨by exact blk_nw BK411.out⟩, ⟨by exact bel0⟩⟩
                      · rw [if_neg c128] at H
                        have c128b0 : (t409 == t384) = false := beq_eq_false_iff_ne.mpr c128
                        have c128b1 : (t409 != t384) = true := bne_iff_ne.mpr c128
                        have H' := Aside0.mk H
                        clear H
                        go_wp2
                        go_meet
                        case rel => exact ⟨_, (true), (by first | rfl | (simp; done) | (simp [*]; done)), H', ⟨by have := HJ20.out; first | omega | exact Nat.le_refl _⟩, ⟨by exact Kd.R_nw (Kd.R_mono HO_387000.out (fun _ hk => ⟨hk.1, hk.2.1⟩))⟩, ⟨by exact Kd.R_nw (Kd.R_mono HO_396000.out (fun _ hk => ⟨hk.1, hk.2.1⟩))⟩, ⟨by exact Kd.R_nw (Kd.R_mono HO_401001.out (fun _ hk => trivial))⟩, ⟨by exact Kd.R_nw (Kd.R_mono HO_412000.out (fun _ hk => ⟨hk.1, hk.2.1⟩))⟩, ⟨by exact blk_nw BK360.out⟩, ⟨by exact blk_nw BK361.out⟩, ⟨by exact blk_nw BK386.out⟩, ⟨by exact blk_nw BK395.out⟩, ⟨by exact blk_nw BK400.out⟩, ⟨by exact blk_nw BK411.out⟩, ⟨by exact bel0⟩⟩
                    · replace c127 := Bool.eq_false_iff.mpr c127
                      subst c127
                      rw [if_neg (show ¬ (false = true) by decide)] at H
                      have H' := Aside0.mk H
                      clear H
                      go_wp2
                      go_meet
                      case rel => exact ⟨_, (true), (by first | rfl | (simp; done) | (simp [*]; done)), H', ⟨by have := HJ20.out; first | omega | exact Nat.le_refl _⟩, ⟨by exact Kd.R_nw (Kd.R_mono HO_387000.out (fun _ hk => ⟨hk.1, hk.2.1⟩))⟩, ⟨by exact Kd.R_nw (Kd.R_mono HO_396000.out (fun _ hk => ⟨hk.1, hk.2.1⟩))⟩, ⟨by exact Kd.R_nw (Kd.R_mono HO_401001.out (fun _ hk => trivial))⟩, ⟨by exact Kd.R_nw (Kd.R_mono HO_412000.out (fun _ hk => ⟨hk.1, hk.2.1⟩))⟩, ⟨by exact blk_nw BK360.out⟩, ⟨by exact blk_nw BK361.out⟩, ⟨by exact blk_nw BK386.out⟩, ⟨by exact blk_nw BK395.out⟩, ⟨by exact blk_nw BK400.out⟩, ⟨by exact blk_nw BK411.out⟩, ⟨by exact bel0⟩⟩
                case rest =>
                  clear HC99
                  try clear c1
                  try clear c2
                  try clear p2
                  try clear c3
                  try clear c4
                  try clear c5
                  try clear c6
                  try clear c7
                  try clear c8
                  try clear c9
                  try clear c10
                  try clear c11
                  try clear c12
                  try clear c25
                  try clear c27
                  try clear c28
                  try clear c37
                  try clear c38
                  try clear c43
                  try clear c44
                  try clear c45
                  try clear c47
                  try clear c51
                  try clear c52
                  try clear c53
                  try clear c54
                  try clear c58
                  try clear c60
                  try clear c61
                  try clear c62
                  try clear c63
                  try clear c64
                  try clear c65
                  try clear c66
                  try clear c68
                  try clear c69
                  try clear c70
                  try clear c71
                  try clear c72
                  try clear c74
                  try clear c75
                  try clear c76
                  try clear c77
                  try clear c80
                  try clear c81
                  try clear c81b0
                  try clear c81b1
                  try clear c82
                  try clear c89
                  try clear c96
                  try clear c100
                  try clear c101
                  try clear c102
                  try clear c103
                  try clear c104
                  try clear c107
                  try clear c108
                  try clear c109
                  try clear c110
                  try clear c113
                  try clear c113b0
                  try clear c115
                  try clear c116
                  try clear c117
                  try clear c118
                  try clear c119
                  try clear c121
                  try clear c122
                  try clear c123
                  try clear c124
                  try clear c127
                  try clear c128
                  try clear c128b0
                  try clear c128b1
                  try clear hcz105_0
                  try clear hcz105_1
                  try clear hcz105_2
                  try clear hcz105_3
                  try clear hcz105_4
                  try clear hcz105_5
                  try clear hcz111_0
                  try clear hcz111_1
                  try clear hcz120_0
                  try clear hcz120_1
                  try clear hcz120_2
                  try clear hcz120_3
                  try clear hcz120_4
                  try clear hcz120_5
                  try clear hcz125_0
                  try clear hcz125_1
                  try clear hcz125_2
                  try clear hcz125_3
                  try clear hcz125_4
                  try clear hcz125_5
                  try clear hcz39_0
                  try clear hcz39_1
                  try clear hcz39_2
                  try clear hcz39_3
                  try clear hcz39_4
                  try clear hcz39_5
                  try clear hcz46_0
                  try clear hcz46_1
                  try clear hcz46_2
                  try clear hcz46_3
                  try clear hcz46_4
                  try clear hcz46_5
                  try clear hcz48_0
                  try clear hcz48_1
                  try clear hcz55_0
                  try clear hcz55_1
                  try clear hcz57_0
                  try clear hcz57_1
                  try clear hcz57_2
                  try clear hcz57_3
                  try clear hcz57_4
                  try clear hcz57_5
                  try clear hcz66_0
                  try clear hcz66_1
                  try clear hcz66_2
                  try clear hcz66_3
                  try clear hcz66_4
                  try clear hcz66_5
                  try clear hcz73_0
                  try clear hcz73_1
                  try clear hcz73_2
                  try clear hcz73_3
                  try clear hcz73_4
                  try clear hcz73_5
                  try clear hcz78_0
                  try clear hcz78_1
                  try clear hcz78_2
                  try clear hcz78_3
                  try clear hcz78_4
                  try clear hcz78_5
                  try clear hfz105_0
                  try clear hfz105_1
                  try clear hfz105_2
                  try clear hfz105_3
                  try clear hfz105_4
                  try clear hfz105_5
                  try clear hfz111_0
                  try clear hfz111_1
                  try clear hfz120_0
                  try clear hfz120_1
                  try clear hfz120_2
                  try clear hfz120_3
                  try clear hfz120_4
                  try clear hfz120_5
                  try clear hfz125_0
                  try clear hfz125_1
                  try clear hfz125_2
                  try clear hfz125_3
                  try clear hfz125_4
                  try clear hfz125_5
                  try clear hfz39_0
                  try clear hfz39_1
                  try clear hfz39_2
                  try clear hfz39_3
                  try clear hfz39_4
                  try clear hfz39_5
                  try clear hfz46_0
                  try clear hfz46_1
                  try clear hfz46_2
                  try clear hfz46_3
                  try clear hfz46_4
                  try clear hfz46_5
                  try clear hfz48_0
                  try clear hfz48_1
                  try clear hfz55_0
                  try clear hfz55_1
                  try clear hfz57_0
                  try clear hfz57_1
                  try clear hfz57_2
                  try clear hfz57_3
                  try clear hfz57_4
                  try clear hfz57_5
                  try clear hfz66_0
                  try clear hfz66_1
                  try clear hfz66_2
                  try clear hfz66_3
                  try clear hfz66_4
                  try clear hfz66_5
                  try clear hfz73_0
                  try clear hfz73_1
                  try clear hfz73_2
                  try clear hfz73_3
                  try clear hfz73_4
                  try clear hfz73_5
                  try clear hfz78_0
                  try clear hfz78_1
                  try clear hfz78_2
                  try clear hfz78_3
                  try clear hfz78_4
                  try clear hfz78_5
                  try clear p2
                  obtain ⟨kq, x97_98, rfl, HA, HJ98, HO_387000, HO_396000, HO_401001, HO_412000, BK360, BK361, BK386, BK395, BK400, BK411, HB⟩ := hcut
                  have hl396000_98 := (Kd.R_reads' HO_396000.out).1
                  rw [hl396000_98] at HO_396000
                  (try simp only [hl396000_98])
                  (try simp only [hl396000_98] at BK360)
                  (try simp only [hl396000_98] at BK361)
                  (try simp only [hl396000_98] at BK386)
                  (try simp only [hl396000_98] at BK395)
                  (try simp only [hl396000_98] at BK400)
                  (try simp only [hl396000_98] at BK411)
                  (try simp only [hl396000_98] at HO_387000)
                  (try simp only [hl396000_98] at HO_401001)
                  (try simp only [hl396000_98] at HO_412000)
                  have hl401001_98 := (Kd.R_reads' HO_401001.out).1
                  rw [hl401001_98] at HO_401001
                  (try simp only [hl401001_98])
                  (try simp only [hl401001_98] at BK360)
                  (try simp only [hl401001_98] at BK361)
                  (try simp only [hl401001_98] at BK386)
                  (try simp only [hl401001_98] at BK395)
                  (try simp only [hl401001_98] at BK400)
                  (try simp only [hl401001_98] at BK411)
                  (try simp only [hl401001_98] at HO_387000)
                  (try simp only [hl401001_98] at HO_396000)
                  (try simp only [hl401001_98] at HO_412000)
                  cases kq with
                  | zero => exact absurd HA.out (by simp [laws_FnExactProbeTick.j1])
                  | succ kj98 =>
                    have H := HA.out
                    clear HA
                    simp only [laws_FnExactProbeTick.j1] at H
                    by_cases c129 : x97_98 = true
                    · subst c129
                      rw [if_pos rfl] at H
                      obtain rfl := Option.some.inj H
                      go_wp2
                      go_ret
                      exact ⟨by first | rfl | (simp [errW_none, errW_some] <;> rfl) | (simp [*, errW_none, errW_some] <;> rfl), by exact bel0⟩
                    · replace c129 := Bool.eq_false_iff.mpr c129
                      subst c129
                      rw [if_neg (show ¬ (false = true) by decide)] at H
                      replace H := Option.bind_eq_some_iff.mp H
                      obtain ⟨⟨t432, t433⟩, A1300, H⟩ := H
                      replace H : ((laws_heldProber.f kj98 t433 t404 t405 t406 t407 t408 1).bind fun t434 => (if t434 < 0 then (some false) else (if t434 = t432 then ((laws_toProber.f kj98 l0_0 a0_1 a0_2 a0_3 a0_4 a0_5).bind fun bt435 => ((laws_toTable.f kj98 a1_0 l1_1).bind fun bt443 => ((impl_ProbeTick.f kj98 bt435.1 bt435.2.1 bt435.2.2.1 bt435.2.2.2.1 bt435.2.2.2.2.1 bt435.2.2.2.2.2 bt443.1 bt443.2).bind fun bt447 => ((laws_eqProber.f kj98 bt447.1 bt447.2.1 bt447.2.2.1 bt447.2.2.2.1 bt447.2.2.2.2.1 bt447.2.2.2.2.2.1 t376 t379 t380 t381 t382 t383).bind fun t458 => (if t458 = true then (if bt447.2.2.2.2.2.2.1 = t384 then (laws_FnExactProbeTick.j2 kj98 t432 (bt447.2.2.2.2.2.2.2 != t385) t433 t404 t405 t406 t407 t408) else (laws_FnExactProbeTick.j2 kj98 t432 true t433 t404 t405 t406 t407 t408)) else (laws_FnExactProbeTick.j2 kj98 t432 true t433 t404 t405 t406 t407 t408)))))) else (some false)))) = some r := H
                      have A130 := Aside0.mk A1300
                      clear A1300
                      replace H := Option.bind_eq_some_iff.mp H
                      obtain ⟨t434, A1310, H⟩ := H
                      have A131 := Aside0.mk A1310
                      clear A1310
                      have hnb132 := NB411_360.out
                      have hnc132 := NB360_411.out
                      have hnb133 := NB411_361.out
                      have hnc133 := NB361_411.out
                      have hnb134 := NB411_386.out
                      have hnc134 := NB386_411.out
                      have hnb135 := NB411_395.out
                      have hnc135 := NB395_411.out
                      have hnb136 := NB411_400.out
                      have hnc136 := NB400_411.out
                      obtain ⟨hcz137_0, hcz137_1, hcz137_2, hcz137_3, hcz137_4, hcz137_5⟩ := blkz6 BK411.out
                      have hfz137_0 := blkf BK411.out
                      replace H := Aside0.mk H
                      go_wp2_with (first | ((with_reducible refine gate_callee (f := 61) rfl ?_); refine goesL_ (some 100) rfl rfl Try.func61 (by kernel_rfl) rfl #[.agg #[.slice Ao60 t401.length co60, .int .i64 t404, .int .i64 t405, .int .i64 t406, .int .i64 t407, .int .i64 t408], .int .i64 1] rfl (by (try simp only [List.map_toArray, List.map_cons, List.map_nil]); first | done | rfl | (simp only [List.length_drop, List.length_take]; rfl)) ?_; (with_reducible refine (laws_markProber.calls kj98 (fun k_ => some k_ = (.slice Ao60 t401.length co60 : Value).ownBlock) (.slice Ao60 t401.length co60) t401 t404 t405 t406 t407 t408 1 t432 t433 w _ ?side1 ?side2 A130.out).mono ?_); (case side1 => exact bel0); (case side2 => exact Kd.R_tight rfl HO_412000.out); rintro e w138 ⟨rfl, hy0, hb, hkp⟩; refine ⟨_, rfl, ?_⟩; have n_ := an (Kd.R_mono (ok' := fun k_ => some k_ ≠ (.slice Ao42 t428.length co42 : Value).ownBlock ∧ some k_ ≠ (.slice Ao60 t401.length co60 : Value).ownBlock) (Kd.R_keptB (HO_387000.out) hkp (fun k_ hk_ hs_ => (hk_.2) hs_)) (fun k_ hk_ => ⟨hk_.1.1, hk_.1.2⟩)) (an (Kd.R_mono (ok' := fun k_ => some k_ ≠ (.slice Ao30 t376.length co30 : Value).ownBlock ∧ some k_ ≠ (.slice Ao60 t401.length co60 : Value).ownBlock) (Kd.R_keptB (HO_396000.out) hkp (fun k_ hk_ hs_ => (hk_.2) hs_)) (fun k_ hk_ => ⟨hk_.1.1, hk_.1.2⟩)) (an (Kd.R_mono (ok' := fun k_ => True) (Kd.R_keptB ((Kd.R_apart' HO_401001.out (Kd.R_typed HO_412000.out) (by decide))) hkp (fun k_ hk_ hs_ => (hk_.2) hs_)) (fun k_ hk_ => trivial)) (an (Kd.R_reok rfl hy0 (fun k_ e_ => HO_412000.out.1 k_ e_)) (an (blk_kept (by exact blk_nw BK360.out) hkp (fun hs_ => (fun e_ => (Kd.R_ne HO_412000.out BK360.out (by decide)) e_) hs_)) (an (blk_kept (by exact blk_nw BK361.out) hkp (fun hs_ => (fun e_ => (Kd.R_ne HO_412000.out BK361.out (by decide)) e_) hs_)) (an (blk_kept (by exact blk_nw BK386.out) hkp (fun hs_ => (fun e_ => (Kd.R_ne HO_412000.out BK386.out (by decide)) e_) hs_)) (an (blk_kept (by exact blk_nw BK395.out) hkp (fun hs_ => (fun e_ => (Kd.R_ne HO_412000.out BK395.out (by decide)) e_) hs_)) (an (blk_kept (by exact blk_nw BK400.out) hkp (fun hs_ => (fun e_ => (Kd.R_ne HO_412000.out BK400.out (by decide)) e_) hs_)) (an (blk_kept (by exact blk_nw BK411.out) hkp (fun hs_ => (fun e_ => (Kd.R_ne HO_412000.out BK411.out (by decide)) e_) hs_)) (an (hb) (trivial))))))))))); clear HO_387000 HO_396000 HO_401001 HO_412000 BK360 BK361 BK386 BK395 BK400 BK411 HB; obtain ⟨HO_387000, HO_396000, HO_401001, HO_412000, BK360, BK361, BK386, BK395, BK400, BK411, HB, -⟩ := n_; (try clear hb); (try clear hkp); (try clear hy0); obtain ⟨hcz139_0, hcz139_1, hcz139_2, hcz139_3, hcz139_4, hcz139_5⟩ := blkz6 BK411.out; have hfz139_0 := blkf BK411.out) | ((with_reducible refine gate_callee (f := 62) rfl ?_); refine goesL_ (some 103) rfl rfl Try.func62 (by kernel_rfl) rfl #[.agg #[.slice Ao60 t433.length co60, .int .i64 t404, .int .i64 t405, .int .i64 t406, .int .i64 t407, .int .i64 t408], .int .i64 1] rfl (by (try simp only [List.map_toArray, List.map_cons, List.map_nil]); first | done | (rw [show t433.length = t401.length from (Kd.R_reads' HO_412000.out).1.symm] <;> rfl) | rfl | (simp only [List.length_drop, List.length_take]; rfl)) ?_; (with_reducible refine (laws_heldProber.calls kj98 _ _ t433 t404 t405 t406 t407 t408 1 t434 _ ?side1 ?side2 A131.out).mono ?_); (case side1 => repeat (first | exact (Kd.R_reads' HO_412000.out).2.2 | (with_reducible refine Kd.C_alloc ?_ _) | (with_reducible refine Kd.C_drewN ?_ _) | (with_reducible refine Kd.C_drew ?_))); (case side2 => rw [show t433.length = t401.length from (Kd.R_reads' HO_412000.out).1.symm]; exact (Kd.R_reads' HO_412000.out).2.1); rintro e w140 ⟨rfl, hb⟩; refine ⟨_, rfl, ?_⟩; have n_ := an (Kd.R_below (by exact Kd.R_nw HO_387000.out) hb) (an (Kd.R_below (by exact Kd.R_nw HO_396000.out) hb) (an (Kd.R_below (by exact Kd.R_nw HO_401001.out) hb) (an (Kd.R_below (by exact Kd.R_nw HO_412000.out) hb) (an (blk_below (blk_nw BK360.out) hb) (an (blk_below (blk_nw BK361.out) hb) (an (blk_below (blk_nw BK386.out) hb) (an (blk_below (blk_nw BK395.out) hb) (an (blk_below (blk_nw BK400.out) hb) (an (blk_below (blk_nw BK411.out) hb) (an (below_step (by exact bel0) hb) (trivial))))))))))); clear HO_387000 HO_396000 HO_401001 HO_412000 BK360 BK361 BK386 BK395 BK400 BK411 HB; obtain ⟨HO_387000, HO_396000, HO_401001, HO_412000, BK360, BK361, BK386, BK395, BK400, BK411, HB, -⟩ := n_; (try clear hb); (try clear hb2); (try clear hk); (try clear hi); refine Stop.out ?_))
                      refine Stop.mk ?_
                      replace H := H.out
                      by_cases c141 : t434 < 0
                      · rw [if_pos c141] at H
                        have c141b0 : decide (t434 < 0) = true := decide_eq_true c141
                        clear c141
                        (try simp only [c141b0])
                        obtain rfl := Option.some.inj H
                        go_wp2
                        go_ret
                        exact ⟨by first | rfl | (simp [errW_none, errW_some] <;> rfl) | (simp [*, errW_none, errW_some] <;> rfl), by exact bel0⟩
                      · rw [if_neg c141] at H
                        have c141b0 : decide (t434 < 0) = false := decide_eq_false c141
                        clear c141
                        (try simp only [c141b0])
                        by_cases c142 : t434 = t432
                        · rw [if_pos c142] at H
                          have c142b0 : (t434 == t432) = true := beq_iff_eq.mpr c142
                          have c142b1 : (t434 != t432) = false := bne_eq_false_iff_eq.mpr c142
                          clear c142
                          replace H := Option.bind_eq_some_iff.mp H
                          obtain ⟨⟨t435, t438, t439, t440, t441, t442⟩, A1430, H⟩ := H
                          replace H : ((laws_toTable.f kj98 a1_0 l1_1).bind fun bt443 => ((impl_ProbeTick.f kj98 t435 t438 t439 t440 t441 t442 bt443.1 bt443.2).bind fun bt447 => ((laws_eqProber.f kj98 bt447.1 bt447.2.1 bt447.2.2.1 bt447.2.2.2.1 bt447.2.2.2.2.1 bt447.2.2.2.2.2.1 t376 t379 t380 t381 t382 t383).bind fun t458 => (if t458 = true then (if bt447.2.2.2.2.2.2.1 = t384 then (laws_FnExactProbeTick.j2 kj98 t432 (bt447.2.2.2.2.2.2.2 != t385) t433 t404 t405 t406 t407 t408) else (laws_FnExactProbeTick.j2 kj98 t432 true t433 t404 t405 t406 t407 t408)) else (laws_FnExactProbeTick.j2 kj98 t432 true t433 t404 t405 t406 t407 t408))))) = some r := H
                          have A143 := Aside0.mk A1430
                          clear A1430
                          replace H := Option.bind_eq_some_iff.mp H
                          obtain ⟨⟨t443, t444⟩, A1440, H⟩ := H
                          replace H : ((impl_ProbeTick.f kj98 t435 t438 t439 t440 t441 t442 t443 t444).bind fun bt447 => ((laws_eqProber.f kj98 bt447.1 bt447.2.1 bt447.2.2.1 bt447.2.2.2.1 bt447.2.2.2.2.1 bt447.2.2.2.2.2.1 t376 t379 t380 t381 t382 t383).bind fun t458 => (if t458 = true then (if bt447.2.2.2.2.2.2.1 = t384 then (laws_FnExactProbeTick.j2 kj98 t432 (bt447.2.2.2.2.2.2.2 != t385) t433 t404 t405 t406 t407 t408) else (laws_FnExactProbeTick.j2 kj98 t432 true t433 t404 t405 t406 t407 t408)) else (laws_FnExactProbeTick.j2 kj98 t432 true t433 t404 t405 t406 t407 t408)))) = some r := H
                          have A144 := Aside0.mk A1440
                          clear A1440
                          replace H := Option.bind_eq_some_iff.mp H
                          obtain ⟨⟨t447, t450, t451, t452, t453, t454, t455, t456⟩, A1450, H⟩ := H
                          replace H : ((laws_eqProber.f kj98 t447 t450 t451 t452 t453 t454 t376 t379 t380 t381 t382 t383).bind fun t458 => (if t458 = true then (if t455 = t384 then (laws_FnExactProbeTick.j2 kj98 t432 (t456 != t385) t433 t404 t405 t406 t407 t408) else (laws_FnExactProbeTick.j2 kj98 t432 true t433 t404 t405 t406 t407 t408)) else (laws_FnExactProbeTick.j2 kj98 t432 true t433 t404 t405 t406 t407 t408))) = some r := H
                          have A145 := Aside0.mk A1450
                          clear A1450
                          have HC146 := Aside0.mk H
                          clear H
                          try go_wp2
                          have n_ := an (Kd.R_drew HO_387000.out) (an (Kd.R_drew HO_396000.out) (an (Kd.R_drew HO_401001.out) (an (Kd.R_drew HO_412000.out) (an (blk_drew BK360.out) (an (blk_drew BK361.out) (an (blk_drew BK386.out) (an (blk_drew BK395.out) (an (blk_drew BK400.out) (an (blk_drew BK411.out) (an (below_drew1 HB.out) (trivial)))))))))))
                          clear HO_387000 HO_396000 HO_401001 HO_412000 BK360 BK361 BK386 BK395 BK400 BK411 HB
                          obtain ⟨HO_387000, HO_396000, HO_401001, HO_412000, BK360, BK361, BK386, BK395, BK400, BK411, HB, -⟩ := n_
                          refine start_ (n := 13) (S := fun w' => w'.cell? ⟨gb360, 0, none⟩ = some (.slice A0_0 l0_0.length c0_0) ∧ w'.cell? ⟨gb360, 1, none⟩ = some (.int .i64 a0_1) ∧ w'.cell? ⟨gb360, 2, none⟩ = some (.int .i64 a0_2) ∧ w'.cell? ⟨gb360, 3, none⟩ = some (.int .i64 a0_3) ∧ w'.cell? ⟨gb360, 4, none⟩ = some (.int .i64 a0_4) ∧ w'.cell? ⟨gb360, 5, none⟩ = some (.int .i64 a0_5) ∧ w'.cell? ⟨gb361, 0, none⟩ = some (.int .i64 a1_0) ∧ w'.cell? ⟨gb361, 1, none⟩ = some (.slice A1_1 l1_1.length c1_1)) (ds := []) #[false, false, false, false, false, false, false, false, false, false, false, false, false] (by kernel_rfl) rfl rfl ⟨(blk_cell BK360.out 0).trans rfl, (blk_cell BK360.out 1).trans rfl, (blk_cell BK360.out 2).trans rfl, (blk_cell BK360.out 3).trans rfl, (blk_cell BK360.out 4).trans rfl, (blk_cell BK360.out 5).trans rfl, (blk_cell BK361.out 0).trans rfl, (blk_cell BK361.out 1).trans rfl⟩ (fun hHeld => ?_); refine with_tabW laws_FnExactProbeTick.tab31 laws_FnExactProbeTick.bits31 (fun HT_ HW_ => ?_)
                          generalize w140.drew = w147 at HO_387000 HO_396000 HO_401001 HO_412000 BK360 BK361 BK386 BK395 BK400 BK411 HB hHeld ⊢
                          refine take_ (i := 0) (N := some 110) (v := ?_) (a' := ?_) #[true, false, false, false, false, false, false, false, false, false, false, false, false] rfl rfl (take_ofW HT_.out HW_.out (by kernel_rfl)) (fun _ _ _ h => h) (Or.inl ⟨by rfl, ?_⟩) hHeld ?_ ?_
                          rotate_left
                          · rintro w' ⟨s0, s1, s2, s3, s4, s5, s6, s7⟩
                            go_simp
                            with_reducible rfl
                          rotate_left; · simp only [Act.put, List.setIfInBounds_toArray, List.set_cons_zero, List.set_cons_succ, i64_w, i32_w]; rfl
                          refine take_ (i := 2) (N := some 112) (v := ?_) (a' := ?_) #[true, false, true, false, false, false, false, false, false, false, false, false, false] rfl rfl (take_ofW HT_.out HW_.out (by kernel_rfl)) (fun _ _ _ h => h) (Or.inl ⟨by rfl, ?_⟩) hHeld ?_ ?_
                          rotate_left
                          · rintro w' ⟨s0, s1, s2, s3, s4, s5, s6, s7⟩
                            go_simp
                            with_reducible rfl
                          rotate_left; · simp only [Act.put, List.setIfInBounds_toArray, List.set_cons_zero, List.set_cons_succ, i64_w, i32_w]; rfl
                          refine join_ (σ := Value × Value × Value × Nat) 3 #[true, true, true, true, true, true, true, true, true, true, false, false, false] (fun s_ => [(111, .agg #[s_.1, .int .i64 t438, .int .i64 t439, .int .i64 t440, .int .i64 t441, .int .i64 t442]), (113, .agg #[.int .i64 t443, s_.2.1]), (114, .tuple #[.agg #[s_.2.2.1, .int .i64 t450, .int .i64 t451, .int .i64 t452, .int .i64 t453, .int .i64 t454], .int .i64 t455, .int .i64 t456]), (17, .pointer (some ⟨s_.2.2.2, 0, none⟩)), (109, .tuple #[.agg #[s_.2.2.1, .int .i64 t450, .int .i64 t451, .int .i64 t452, .int .i64 t453, .int .i64 t454], .int .i64 t455, .int .i64 t456]), (115, .agg #[s_.2.2.1, .int .i64 t450, .int .i64 t451, .int .i64 t452, .int .i64 t453, .int .i64 t454]), (116, .int .i64 t455), (117, .int .i64 t456)]) (fun s_ w' => (w'.cell? ⟨gb360, 0, none⟩ = some (.slice A0_0 l0_0.length c0_0) ∧ w'.cell? ⟨gb360, 1, none⟩ = some (.int .i64 a0_1) ∧ w'.cell? ⟨gb360, 2, none⟩ = some (.int .i64 a0_2) ∧ w'.cell? ⟨gb360, 3, none⟩ = some (.int .i64 a0_3) ∧ w'.cell? ⟨gb360, 4, none⟩ = some (.int .i64 a0_4) ∧ w'.cell? ⟨gb360, 5, none⟩ = some (.int .i64 a0_5) ∧ w'.cell? ⟨gb361, 0, none⟩ = some (.int .i64 a1_0) ∧ w'.cell? ⟨gb361, 1, none⟩ = some (.slice A1_1 l1_1.length c1_1)) ∧ (Kd.R (Kd.int .i64) 3 w' w.heap.size (fun k_ => some k_ ≠ (s_.2.2.1 : Value).ownBlock ∧ some k_ ≠ (.slice Ao30 t376.length co30 : Value).ownBlock ∧ some k_ ≠ (.slice Ao42 t428.length co42 : Value).ownBlock ∧ some k_ ≠ (.slice Ao60 t401.length co60 : Value).ownBlock) s_.1 t435) ∧ (Kd.R k82 82 w' w.heap.size (fun k_ => some k_ ≠ (.slice Ao56 t430.length co56 : Value).ownBlock) s_.2.1 t444) ∧ (Kd.R (Kd.int .i64) 3 w' w.heap.size (fun k_ => some k_ ≠ (s_.1 : Value).ownBlock ∧ some k_ ≠ (.slice Ao30 t376.length co30 : Value).ownBlock ∧ some k_ ≠ (.slice Ao42 t428.length co42 : Value).ownBlock ∧ some k_ ≠ (.slice Ao60 t401.length co60 : Value).ownBlock) s_.2.2.1 t447) ∧ (Kd.R (Kd.int .i64) 3 w' w.heap.size (fun k_ => some k_ ≠ (s_.1 : Value).ownBlock ∧ some k_ ≠ (s_.2.2.1 : Value).ownBlock ∧ some k_ ≠ (.slice Ao42 t428.length co42 : Value).ownBlock ∧ some k_ ≠ (.slice Ao60 t401.length co60 : Value).ownBlock) (.slice Ao30 t376.length co30) t376) ∧ (Kd.R (Kd.int .i64) 3 w' w.heap.size (fun k_ => some k_ ≠ (s_.1 : Value).ownBlock ∧ some k_ ≠ (s_.2.2.1 : Value).ownBlock ∧ some k_ ≠ (.slice Ao30 t376.length co30 : Value).ownBlock ∧ some k_ ≠ (.slice Ao60 t401.length co60 : Value).ownBlock) (.slice Ao42 t428.length co42) t428) ∧ (Kd.R k82 82 w' w.heap.size (fun k_ => some k_ ≠ (s_.2.1 : Value).ownBlock) (.slice Ao56 t430.length co56) t430) ∧ (Kd.R (Kd.int .i64) 3 w' w.heap.size (fun k_ => some k_ ≠ (s_.1 : Value).ownBlock ∧ some k_ ≠ (s_.2.2.1 : Value).ownBlock ∧ some k_ ≠ (.slice Ao30 t376.length co30 : Value).ownBlock ∧ some k_ ≠ (.slice Ao42 t428.length co42 : Value).ownBlock) (.slice Ao60 t401.length co60) t433) ∧ (w'.heap[gb360]? = some (.cells #[.slice A0_0 l0_0.length c0_0, .int .i64 a0_1, .int .i64 a0_2, .int .i64 a0_3, .int .i64 a0_4, .int .i64 a0_5] 88 (0, 0))) ∧ (w'.heap[gb361]? = some (.cells #[.int .i64 a1_0, .slice A1_1 l1_1.length c1_1] 37 (0, 0))) ∧ (w'.heap[gb386]? = some (.cells #[.slice Ao30 t376.length co30, .int .i64 t379, .int .i64 t380, .int .i64 t381, .int .i64 t382, .int .i64 t383] 90 (0, 0))) ∧ (w'.heap[gb395]? = some (.cells #[.slice Ao42 t428.length co42, .int .i64 t390, .int .i64 t391, .int .i64 t392, .int .i64 t393, .int .i64 t394] 90 (0, 0))) ∧ (w'.heap[gb400]? = some (.cells #[.int .i64 t396, .slice Ao56 t430.length co56] 41 (0, 0))) ∧ (w'.heap[gb411]? = some (.cells #[.slice Ao60 t401.length co60, .int .i64 t404, .int .i64 t405, .int .i64 t406, .int .i64 t407, .int .i64 t408] 90 (0, 0))) ∧ (w'.heap[s_.2.2.2]? = some (.cells #[.slice none 0 0, .int .i64 0, .int .i64 0, .int .i64 0, .int .i64 0, .int .i64 0] 90 (0, 0))) ∧ (w.heap.size ≤ s_.2.2.2) ∧ (w.heap.size ≤ s_.2.2.2) ∧ (gb360 ≠ s_.2.2.2) ∧ (s_.2.2.2 ≠ gb360) ∧ (gb361 ≠ s_.2.2.2) ∧ (s_.2.2.2 ≠ gb361) ∧ (gb386 ≠ s_.2.2.2) ∧ (s_.2.2.2 ≠ gb386) ∧ (gb395 ≠ s_.2.2.2) ∧ (s_.2.2.2 ≠ gb395) ∧ (gb400 ≠ s_.2.2.2) ∧ (s_.2.2.2 ≠ gb400) ∧ (gb411 ≠ s_.2.2.2) ∧ (s_.2.2.2 ≠ gb411) ∧ (Below w.heap.size w w')) ?_ ?_
                          rotate_left
                          · intro hCont
                            refine two_ (i := 1) (j := 9) (Ni := some 111) (Nj := some 17) #[true, true, true, false, false, false, false, false, false, false, false, false, false] #[true, false, true, false, false, false, false, false, false, true, false, false, false] rfl rfl rfl rfl (two_of HT_.out (by kernel_rfl)) (by decide) (by decide) (fun K hK => ?_) (fun K hK => ?_)
                            · skip
                              refine goes_ Try.func58 (by kernel_rfl) rfl #[.agg #[.slice A0_0 l0_0.length c0_0, .int .i64 a0_1, .int .i64 a0_2, .int .i64 a0_3, .int .i64 a0_4, .int .i64 a0_5]] (by rfl) rfl rfl (by (try simp only [List.map_toArray, List.map_cons, List.map_nil]); first | done | rfl | (simp only [List.length_drop, List.length_take]; rfl)) ?_
                              with_reducible refine (laws_toProber.calls kj98 _ _ l0_0 a0_1 a0_2 a0_3 a0_4 a0_5 t435 t438 t439 t440 t441 t442 _ ?side1 ?side2 A143.out).mono ?_
                              (case side1 => repeat (first | exact (Kd.C_below HR0_0.out HB.out) | (with_reducible refine Kd.C_alloc ?_ _) | (with_reducible refine Kd.C_drewN ?_ _) | (with_reducible refine Kd.C_drew ?_)))
                              (case side2 => exact HC0_0.out)
                              rintro e w148 ⟨v436, rfl, ho0, hb⟩
                              refine ⟨_, rfl, ?_⟩
                              have n_ := an (Kd.R_elder' (by exact Kd.R_nw HO_387000.out) (Kd.R_base ho0) hb) (an (Kd.R_elder' (by exact Kd.R_nw HO_396000.out) (Kd.R_base ho0) hb) (an (Kd.R_below (by exact Kd.R_nw HO_401001.out) hb) (an (Kd.R_elder' (by exact Kd.R_nw HO_412000.out) (Kd.R_base ho0) hb) (an (Kd.R_lower (Kd.R_new' (Kd.R_new' (Kd.R_new' ho0 (Kd.R_lt (by exact Kd.R_nw HO_387000.out))) (Kd.R_lt (by exact Kd.R_nw HO_396000.out))) (Kd.R_lt (by exact Kd.R_nw HO_412000.out))) (below_size (by exact bel0))) (an (blk_below (blk_nw BK360.out) hb) (an (blk_below (blk_nw BK361.out) hb) (an (blk_below (blk_nw BK386.out) hb) (an (blk_below (blk_nw BK395.out) hb) (an (blk_below (blk_nw BK400.out) hb) (an (blk_below (blk_nw BK411.out) hb) (an (below_step (by exact bel0) hb) (trivial))))))))))))
                              clear HO_387000 HO_396000 HO_401001 HO_412000 BK360 BK361 BK386 BK395 BK400 BK411 HB
                              obtain ⟨HO_387000, HO_396000, HO_401001, HO_412000, HO437, BK360, BK361, BK386, BK395, BK400, BK411, HB, -⟩ := n_
                              (try clear hb)
                              (try clear hb2)
                              (try clear hk)
                              (try clear hi)
                              (try clear ho0)
                              refine hK.out _ _ ⟨(blk_cell BK360.out 0).trans rfl, (blk_cell BK360.out 1).trans rfl, (blk_cell BK360.out 2).trans rfl, (blk_cell BK360.out 3).trans rfl, (blk_cell BK360.out 4).trans rfl, (blk_cell BK360.out 5).trans rfl, (blk_cell BK361.out 0).trans rfl, (blk_cell BK361.out 1).trans rfl⟩ (fun hHeld => ?_)
                              clear hK K
                              refine norm_ (a' := ?_) ?_ ?_
                              rotate_left
                              · show Act.put _ (some 111) _ = _
                                simp only [Act.put, List.setIfInBounds_toArray, List.set_cons_zero, List.set_cons_succ, i64_w, i32_w]
                                rfl
                              refine two_ (i := 3) (j := 9) (Ni := some 113) (Nj := some 17) #[true, true, true, true, false, false, false, false, false, false, false, false, false] #[true, true, true, false, false, false, false, false, false, true, false, false, false] rfl rfl rfl rfl (two_of HT_.out (by kernel_rfl)) (by decide) (by decide) (fun K hK => ?_) (fun K hK => ?_)
                              · skip
                                refine goes_ Try.func25 (by kernel_rfl) rfl #[.agg #[.int .i64 a1_0, .slice A1_1 l1_1.length c1_1]] (by rfl) rfl rfl (by (try simp only [List.map_toArray, List.map_cons, List.map_nil]); first | done | rfl | (simp only [List.length_drop, List.length_take]; rfl)) ?_
                                with_reducible refine (laws_toTable.calls kj98 a1_0 _ _ l1_1 t443 t444 _ ?side1 ?side2 A144.out).mono ?_
                                (case side1 => repeat (first | exact (Kd.C_below HR1_1.out HB.out) | (with_reducible refine Kd.C_alloc ?_ _) | (with_reducible refine Kd.C_drewN ?_ _) | (with_reducible refine Kd.C_drew ?_)))
                                (case side2 => exact HC1_1.out)
                                rintro e w149 ⟨v445, rfl, ho0, hb⟩
                                refine ⟨_, rfl, ?_⟩
                                have n_ := an (Kd.R_below (by exact Kd.R_nw HO_387000.out) hb) (an (Kd.R_below (by exact Kd.R_nw HO_396000.out) hb) (an (Kd.R_elder' (by exact Kd.R_nw HO_401001.out) (Kd.R_base ho0) hb) (an (Kd.R_below (by exact Kd.R_nw HO_412000.out) hb) (an (Kd.R_below (by exact Kd.R_nw HO437.out) hb) (an (Kd.R_lower (Kd.R_new' ho0 (Kd.R_lt (by exact Kd.R_nw HO_401001.out))) (below_size (by exact bel0))) (an (blk_below (blk_nw BK360.out) hb) (an (blk_below (blk_nw BK361.out) hb) (an (blk_below (blk_nw BK386.out) hb) (an (blk_below (blk_nw BK395.out) hb) (an (blk_below (blk_nw BK400.out) hb) (an (blk_below (blk_nw BK411.out) hb) (an (below_step (by exact bel0) hb) (trivial)))))))))))))
                                clear HO_387000 HO_396000 HO_401001 HO_412000 HO437 BK360 BK361 BK386 BK395 BK400 BK411 HB
                                obtain ⟨HO_387000, HO_396000, HO_401001, HO_412000, HO437, HO446, BK360, BK361, BK386, BK395, BK400, BK411, HB, -⟩ := n_
                                (try clear hb)
                                (try clear hb2)
                                (try clear hk)
                                (try clear hi)
                                (try clear ho0)
                                obtain ⟨Ao150, co150, eo150⟩ := Kd.R_slice HO437.out
                                (first | subst eo150 | (injection eo150 with f1_ f2_ f3_; have f4_ := f1_.symm; have f5_ := f3_.symm; clear f1_ f2_ f3_; subst f4_; subst f5_))
                                obtain ⟨Ao151, co151, eo151⟩ := Kd.R_slice HO446.out
                                (first | subst eo151 | (injection eo151 with f1_ f2_ f3_; have f4_ := f1_.symm; have f5_ := f3_.symm; clear f1_ f2_ f3_; subst f4_; subst f5_))
                                refine hK.out _ _ ⟨(blk_cell BK360.out 0).trans rfl, (blk_cell BK360.out 1).trans rfl, (blk_cell BK360.out 2).trans rfl, (blk_cell BK360.out 3).trans rfl, (blk_cell BK360.out 4).trans rfl, (blk_cell BK360.out 5).trans rfl, (blk_cell BK361.out 0).trans rfl, (blk_cell BK361.out 1).trans rfl⟩ (fun hHeld => ?_)
                                clear hK K
                                refine norm_ (a' := ?_) ?_ ?_
                                rotate_left
                                · show Act.put _ (some 113) _ = _
                                  simp only [Act.put, List.setIfInBounds_toArray, List.set_cons_zero, List.set_cons_succ, i64_w, i32_w]
                                  rfl
                                refine two_ (i := 4) (j := 9) (Ni := some 114) (Nj := some 17) #[true, true, true, true, true, false, false, false, false, false, false, false, false] #[true, true, true, true, false, false, false, false, false, true, false, false, false] rfl rfl rfl rfl (two_of HT_.out (by kernel_rfl)) (by decide) (by decide) (fun K hK => ?_) (fun K hK => ?_)
                                · skip
                                  refine goes_ Try.func66 (by kernel_rfl) rfl #[.agg #[.slice Ao150 t435.length co150, .int .i64 t438, .int .i64 t439, .int .i64 t440, .int .i64 t441, .int .i64 t442], .agg #[.int .i64 t443, .slice Ao151 t444.length co151]] (by rfl) rfl rfl (by (try simp only [List.map_toArray, List.map_cons, List.map_nil]); first | done | rfl | (simp only [List.length_drop, List.length_take]; rfl)) ?_
                                  with_reducible refine (impl_ProbeTick.calls kj98 _ _ t435 t438 t439 t440 t441 t442 t443 _ _ t444 t447 t450 t451 t452 t453 t454 t455 t456 _ ?side1 ?side2 ?side3 ?side4 A145.out).mono ?_
                                  (case side1 => repeat (first | exact (Kd.R_reads' HO437.out).2.2 | (with_reducible refine Kd.C_alloc ?_ _) | (with_reducible refine Kd.C_drewN ?_ _) | (with_reducible refine Kd.C_drew ?_)))
                                  (case side2 => exact (Kd.R_reads' HO437.out).2.1)
                                  (case side3 => repeat (first | exact (Kd.R_reads' HO446.out).2.2 | (with_reducible refine Kd.C_alloc ?_ _) | (with_reducible refine Kd.C_drewN ?_ _) | (with_reducible refine Kd.C_drew ?_)))
                                  (case side4 => exact (Kd.R_reads' HO446.out).2.1)
                                  rintro e w152 ⟨v448, rfl, ho0, hb⟩
                                  refine ⟨_, rfl, ?_⟩
                                  have n_ := an (Kd.R_elder' (by exact Kd.R_nw HO_387000.out) (Kd.R_base ho0) hb) (an (Kd.R_elder' (by exact Kd.R_nw HO_396000.out) (Kd.R_base ho0) hb) (an (Kd.R_below (by exact Kd.R_nw HO_401001.out) hb) (an (Kd.R_elder' (by exact Kd.R_nw HO_412000.out) (Kd.R_base ho0) hb) (an (Kd.R_elder' (by exact Kd.R_nw HO437.out) (Kd.R_base ho0) hb) (an (Kd.R_below (by exact Kd.R_nw HO446.out) hb) (an (Kd.R_lower (Kd.R_new' (Kd.R_new' (Kd.R_new' (Kd.R_new' ho0 (Kd.R_lt (by exact Kd.R_nw HO_387000.out))) (Kd.R_lt (by exact Kd.R_nw HO_396000.out))) (Kd.R_lt (by exact Kd.R_nw HO_412000.out))) (Kd.R_lt (by exact Kd.R_nw HO437.out))) (below_size (by exact bel0))) (an (blk_below (blk_nw BK360.out) hb) (an (blk_below (blk_nw BK361.out) hb) (an (blk_below (blk_nw BK386.out) hb) (an (blk_below (blk_nw BK395.out) hb) (an (blk_below (blk_nw BK400.out) hb) (an (blk_below (blk_nw BK411.out) hb) (an (below_step (by exact bel0) hb) (trivial))))))))))))))
                                  clear HO_387000 HO_396000 HO_401001 HO_412000 HO437 HO446 BK360 BK361 BK386 BK395 BK400 BK411 HB
                                  obtain ⟨HO_387000, HO_396000, HO_401001, HO_412000, HO437, HO446, HO449, BK360, BK361, BK386, BK395, BK400, BK411, HB, -⟩ := n_
                                  (try clear hb)
                                  (try clear hb2)
                                  (try clear hk)
                                  (try clear hi)
                                  (try clear ho0)
                                  refine hK.out _ _ ⟨(blk_cell BK360.out 0).trans rfl, (blk_cell BK360.out 1).trans rfl, (blk_cell BK360.out 2).trans rfl, (blk_cell BK360.out 3).trans rfl, (blk_cell BK360.out 4).trans rfl, (blk_cell BK360.out 5).trans rfl, (blk_cell BK361.out 0).trans rfl, (blk_cell BK361.out 1).trans rfl⟩ (fun hHeld => ?_)
                                  clear hK K
                                  refine norm_ (a' := ?_) ?_ ?_
                                  rotate_left
                                  · show Act.put _ (some 114) _ = _
                                    simp only [Act.put, List.setIfInBounds_toArray, List.set_cons_zero, List.set_cons_succ, i64_w, i32_w]
                                    rfl
                                  refine pure_ (i := 5) (N := some 109) (v := ?_) (a' := ?_) #[true, true, true, true, true, true, false, false, false, false, false, false, false] rfl rfl (any_of HT_.out (by kernel_rfl)) (fun _ _ _ h => h) (Or.inl ⟨by rfl, ?_⟩) ?_ ?_
                                  rotate_left; · intro w'; go_simp; with_reducible rfl
                                  rotate_left; · simp only [Act.put, List.setIfInBounds_toArray, List.set_cons_zero, List.set_cons_succ, i64_w, i32_w]; rfl
                                  refine pure_ (i := 6) (N := some 115) (v := ?_) (a' := ?_) #[true, true, true, true, true, true, true, false, false, false, false, false, false] rfl rfl (any_of HT_.out (by kernel_rfl)) (fun _ _ _ h => h) (Or.inl ⟨by rfl, ?_⟩) ?_ ?_
                                  rotate_left; · intro w'; go_simp; with_reducible rfl
                                  rotate_left; · simp only [Act.put, List.setIfInBounds_toArray, List.set_cons_zero, List.set_cons_succ, i64_w, i32_w]; rfl
                                  refine pure_ (i := 7) (N := some 116) (v := ?_) (a' := ?_) #[true, true, true, true, true, true, true, true, false, false, false, false, false] rfl rfl (any_of HT_.out (by kernel_rfl)) (fun _ _ _ h => h) (Or.inl ⟨by rfl, ?_⟩) ?_ ?_
                                  rotate_left; · intro w'; go_simp; with_reducible rfl
                                  rotate_left; · simp only [Act.put, List.setIfInBounds_toArray, List.set_cons_zero, List.set_cons_succ, i64_w, i32_w]; rfl
                                  refine pure_ (i := 8) (N := some 117) (v := ?_) (a' := ?_) #[true, true, true, true, true, true, true, true, true, false, false, false, false] rfl rfl (any_of HT_.out (by kernel_rfl)) (fun _ _ _ h => h) (Or.inl ⟨by rfl, ?_⟩) ?_ ?_
                                  rotate_left; · intro w'; go_simp; with_reducible rfl
                                  rotate_left; · simp only [Act.put, List.setIfInBounds_toArray, List.set_cons_zero, List.set_cons_succ, i64_w, i32_w]; rfl
                                  refine one_ (i := 9) (N := some 17) #[true, true, true, true, true, true, true, true, true, true, false, false, false] rfl rfl (one_of HT_.out (by kernel_rfl)) (by decide) (fun K hK => ?_)
                                  refine box_step ?hg (N := 17) ?hd (cs := #[.slice none 0 0, .int .i64 0, .int .i64 0, .int .i64 0, .int .i64 0, .int .i64 0]) (t := 90) ?hr ?_; (case hd => rfl); (case hg => rfl); (case hr => first | (go_simp; done) | (go_simp; rfl))
                                  intro gb457 hg w153 hbox hb
                                  have n_ := an (Kd.R_below (by exact Kd.R_nw HO_387000.out) hb) (an (Kd.R_below (by exact Kd.R_nw HO_396000.out) hb) (an (Kd.R_below (by exact Kd.R_nw HO_401001.out) hb) (an (Kd.R_below (by exact Kd.R_nw HO_412000.out) hb) (an (Kd.R_below (by exact Kd.R_nw HO437.out) hb) (an (Kd.R_below (by exact Kd.R_nw HO446.out) hb) (an (Kd.R_below (by exact Kd.R_nw HO449.out) hb) (an (blk_below (blk_nw BK360.out) hb) (an (blk_below (blk_nw BK361.out) hb) (an (blk_below (blk_nw BK386.out) hb) (an (blk_below (blk_nw BK395.out) hb) (an (blk_below (blk_nw BK400.out) hb) (an (blk_below (blk_nw BK411.out) hb) (an (below_step (by exact bel0) hb) (an (hbox) (an ((by rw [hg]; exact (below_size (by exact bel0)) : w.heap.size ≤ gb457)) (an ((by rw [hg]; exact (below_size (by exact bel0)) : w.heap.size ≤ gb457)) (an ((by rw [hg]; exact Nat.ne_of_lt (blk_lt (blk_nw BK360.out)) : gb360 ≠ gb457)) (an ((by rw [hg]; exact Nat.ne_of_gt (blk_lt (blk_nw BK360.out)) : gb457 ≠ gb360)) (an ((by rw [hg]; exact Nat.ne_of_lt (blk_lt (blk_nw BK361.out)) : gb361 ≠ gb457)) (an ((by rw [hg]; exact Nat.ne_of_gt (blk_lt (blk_nw BK361.out)) : gb457 ≠ gb361)) (an ((by rw [hg]; exact Nat.ne_of_lt (blk_lt (blk_nw BK386.out)) : gb386 ≠ gb457)) (an ((by rw [hg]; exact Nat.ne_of_gt (blk_lt (blk_nw BK386.out)) : gb457 ≠ gb386)) (an ((by rw [hg]; exact Nat.ne_of_lt (blk_lt (blk_nw BK395.out)) : gb395 ≠ gb457)) (an ((by rw [hg]; exact Nat.ne_of_gt (blk_lt (blk_nw BK395.out)) : gb457 ≠ gb395)) (an ((by rw [hg]; exact Nat.ne_of_lt (blk_lt (blk_nw BK400.out)) : gb400 ≠ gb457)) (an ((by rw [hg]; exact Nat.ne_of_gt (blk_lt (blk_nw BK400.out)) : gb457 ≠ gb400)) (an ((by rw [hg]; exact Nat.ne_of_lt (blk_lt (blk_nw BK411.out)) : gb411 ≠ gb457)) (an ((by rw [hg]; exact Nat.ne_of_gt (blk_lt (blk_nw BK411.out)) : gb457 ≠ gb411)) (trivial)))))))))))))))))))))))))))))
                                  clear HO_387000 HO_396000 HO_401001 HO_412000 HO437 HO446 HO449 BK360 BK361 BK386 BK395 BK400 BK411 HB
                                  obtain ⟨HO_387000, HO_396000, HO_401001, HO_412000, HO437, HO446, HO449, BK360, BK361, BK386, BK395, BK400, BK411, HB, BK457, GW457, GE457, NB360_457, NB457_360, NB361_457, NB457_361, NB386_457, NB457_386, NB395_457, NB457_395, NB400_457, NB457_400, NB411_457, NB457_411, -⟩ := n_
                                  clear hb hbox hg
                                  refine hK.out _ _ ⟨(blk_cell BK360.out 0).trans rfl, (blk_cell BK360.out 1).trans rfl, (blk_cell BK360.out 2).trans rfl, (blk_cell BK360.out 3).trans rfl, (blk_cell BK360.out 4).trans rfl, (blk_cell BK360.out 5).trans rfl, (blk_cell BK361.out 0).trans rfl, (blk_cell BK361.out 1).trans rfl⟩ (fun hHeld => ?_)
                                  clear hK K
                                  refine norm_ (a' := ?_) ?_ ?_
                                  rotate_left
                                  · show Act.put _ (some 17) _ = _
                                    simp only [Act.put, List.setIfInBounds_toArray, List.set_cons_zero, List.set_cons_succ, i64_w, i32_w]
                                    rfl
                                  exact norm_ (by simp only [putAll, Act.put, List.setIfInBounds_toArray, List.set_cons_zero, List.set_cons_succ]) (hCont (.slice Ao150 t435.length co150, .slice Ao151 t444.length co151, v448, gb457) _ ⟨hHeld, (by exact Kd.R_nw (Kd.R_mono HO437.out (fun _ hk => ⟨hk.2, ⟨hk.1.1.1.2, ⟨hk.1.1.2, hk.1.2⟩⟩⟩))), (by exact Kd.R_nw (Kd.R_mono HO446.out (fun _ hk => hk.2))), (by exact Kd.R_nw (Kd.R_mono HO449.out (fun _ hk => ⟨hk.2, ⟨hk.1.1.1.2, ⟨hk.1.1.2, hk.1.2⟩⟩⟩))), (by exact Kd.R_nw (Kd.R_mono HO_387000.out (fun _ hk => ⟨hk.1.2, ⟨hk.2, ⟨hk.1.1.1, hk.1.1.2⟩⟩⟩))), (by exact Kd.R_nw (Kd.R_mono HO_396000.out (fun _ hk => ⟨hk.1.2, ⟨hk.2, ⟨hk.1.1.1, hk.1.1.2⟩⟩⟩))), (by exact Kd.R_nw (Kd.R_mono HO_401001.out (fun _ hk => hk.2))), (by exact Kd.R_nw (Kd.R_mono HO_412000.out (fun _ hk => ⟨hk.1.2, ⟨hk.2, ⟨hk.1.1.1, hk.1.1.2⟩⟩⟩))), (by exact blk_nw BK360.out), (by exact blk_nw BK361.out), (by exact blk_nw BK386.out), (by exact blk_nw BK395.out), (by exact blk_nw BK400.out), (by exact blk_nw BK411.out), (by exact blk_nw BK457.out), GW457.out, GE457.out, NB360_457.out, NB457_360.out, NB361_457.out, NB457_361.out, NB386_457.out, NB457_386.out, NB395_457.out, NB457_395.out, NB400_457.out, NB457_400.out, NB411_457.out, NB457_411.out, (by exact bel0)⟩)
                                · skip
                                  refine box_step ?hg (N := 17) ?hd (cs := #[.slice none 0 0, .int .i64 0, .int .i64 0, .int .i64 0, .int .i64 0, .int .i64 0]) (t := 90) ?hr ?_; (case hd => rfl); (case hg => rfl); (case hr => first | (go_simp; done) | (go_simp; rfl))
                                  intro gb457 hg w150 hbox hb
                                  have n_ := an (Kd.R_below (by exact Kd.R_nw HO_387000.out) hb) (an (Kd.R_below (by exact Kd.R_nw HO_396000.out) hb) (an (Kd.R_below (by exact Kd.R_nw HO_401001.out) hb) (an (Kd.R_below (by exact Kd.R_nw HO_412000.out) hb) (an (Kd.R_below (by exact Kd.R_nw HO437.out) hb) (an (Kd.R_below (by exact Kd.R_nw HO446.out) hb) (an (blk_below (blk_nw BK360.out) hb) (an (blk_below (blk_nw BK361.out) hb) (an (blk_below (blk_nw BK386.out) hb) (an (blk_below (blk_nw BK395.out) hb) (an (blk_below (blk_nw BK400.out) hb) (an (blk_below (blk_nw BK411.out) hb) (an (below_step (by exact bel0) hb) (an (hbox) (an ((by rw [hg]; exact (below_size (by exact bel0)) : w.heap.size ≤ gb457)) (an ((by rw [hg]; exact (below_size (by exact bel0)) : w.heap.size ≤ gb457)) (an ((by rw [hg]; exact Nat.ne_of_lt (blk_lt (blk_nw BK360.out)) : gb360 ≠ gb457)) (an ((by rw [hg]; exact Nat.ne_of_gt (blk_lt (blk_nw BK360.out)) : gb457 ≠ gb360)) (an ((by rw [hg]; exact Nat.ne_of_lt (blk_lt (blk_nw BK361.out)) : gb361 ≠ gb457)) (an ((by rw [hg]; exact Nat.ne_of_gt (blk_lt (blk_nw BK361.out)) : gb457 ≠ gb361)) (an ((by rw [hg]; exact Nat.ne_of_lt (blk_lt (blk_nw BK386.out)) : gb386 ≠ gb457)) (an ((by rw [hg]; exact Nat.ne_of_gt (blk_lt (blk_nw BK386.out)) : gb457 ≠ gb386)) (an ((by rw [hg]; exact Nat.ne_of_lt (blk_lt (blk_nw BK395.out)) : gb395 ≠ gb457)) (an ((by rw [hg]; exact Nat.ne_of_gt (blk_lt (blk_nw BK395.out)) : gb457 ≠ gb395)) (an ((by rw [hg]; exact Nat.ne_of_lt (blk_lt (blk_nw BK400.out)) : gb400 ≠ gb457)) (an ((by rw [hg]; exact Nat.ne_of_gt (blk_lt (blk_nw BK400.out)) : gb457 ≠ gb400)) (an ((by rw [hg]; exact Nat.ne_of_lt (blk_lt (blk_nw BK411.out)) : gb411 ≠ gb457)) (an ((by rw [hg]; exact Nat.ne_of_gt (blk_lt (blk_nw BK411.out)) : gb457 ≠ gb411)) (trivial))))))))))))))))))))))))))))
                                  clear HO_387000 HO_396000 HO_401001 HO_412000 HO437 HO446 BK360 BK361 BK386 BK395 BK400 BK411 HB
                                  obtain ⟨HO_387000, HO_396000, HO_401001, HO_412000, HO437, HO446, BK360, BK361, BK386, BK395, BK400, BK411, HB, BK457, GW457, GE457, NB360_457, NB457_360, NB361_457, NB457_361, NB386_457, NB457_386, NB395_457, NB457_395, NB400_457, NB457_400, NB411_457, NB457_411, -⟩ := n_
                                  clear hb hbox hg
                                  obtain ⟨Ao151, co151, eo151⟩ := Kd.R_slice HO437.out
                                  (first | subst eo151 | (injection eo151 with f1_ f2_ f3_; have f4_ := f1_.symm; have f5_ := f3_.symm; clear f1_ f2_ f3_; subst f4_; subst f5_))
                                  obtain ⟨Ao152, co152, eo152⟩ := Kd.R_slice HO446.out
                                  (first | subst eo152 | (injection eo152 with f1_ f2_ f3_; have f4_ := f1_.symm; have f5_ := f3_.symm; clear f1_ f2_ f3_; subst f4_; subst f5_))
                                  refine hK.out _ _ ⟨(blk_cell BK360.out 0).trans rfl, (blk_cell BK360.out 1).trans rfl, (blk_cell BK360.out 2).trans rfl, (blk_cell BK360.out 3).trans rfl, (blk_cell BK360.out 4).trans rfl, (blk_cell BK360.out 5).trans rfl, (blk_cell BK361.out 0).trans rfl, (blk_cell BK361.out 1).trans rfl⟩ (fun hHeld => ?_)
                                  clear hK K
                                  refine norm_ (a' := ?_) ?_ ?_
                                  rotate_left
                                  · show Act.put _ (some 17) _ = _
                                    simp only [Act.put, List.setIfInBounds_toArray, List.set_cons_zero, List.set_cons_succ, i64_w, i32_w]
                                    rfl
                                  refine one_ (i := 4) (N := some 114) #[true, true, true, true, true, false, false, false, false, true, false, false, false] rfl rfl (one_of HT_.out (by kernel_rfl)) (by decide) (fun K hK => ?_)
                                  refine goes_ Try.func66 (by kernel_rfl) rfl #[.agg #[.slice Ao151 t435.length co151, .int .i64 t438, .int .i64 t439, .int .i64 t440, .int .i64 t441, .int .i64 t442], .agg #[.int .i64 t443, .slice Ao152 t444.length co152]] (by rfl) rfl rfl (by (try simp only [List.map_toArray, List.map_cons, List.map_nil]); first | done | rfl | (simp only [List.length_drop, List.length_take]; rfl)) ?_
                                  with_reducible refine (impl_ProbeTick.calls kj98 _ _ t435 t438 t439 t440 t441 t442 t443 _ _ t444 t447 t450 t451 t452 t453 t454 t455 t456 _ ?side1 ?side2 ?side3 ?side4 A145.out).mono ?_
                                  (case side1 => repeat (first | exact (Kd.R_reads' HO437.out).2.2 | (with_reducible refine Kd.C_alloc ?_ _) | (with_reducible refine Kd.C_drewN ?_ _) | (with_reducible refine Kd.C_drew ?_)))
                                  (case side2 => exact (Kd.R_reads' HO437.out).2.1)
                                  (case side3 => repeat (first | exact (Kd.R_reads' HO446.out).2.2 | (with_reducible refine Kd.C_alloc ?_ _) | (with_reducible refine Kd.C_drewN ?_ _) | (with_reducible refine Kd.C_drew ?_)))
                                  (case side4 => exact (Kd.R_reads' HO446.out).2.1)
                                  rintro e w153 ⟨v448, rfl, ho0, hb⟩
                                  refine ⟨_, rfl, ?_⟩
                                  have n_ := an (Kd.R_elder' (by exact Kd.R_nw HO_387000.out) (Kd.R_base ho0) hb) (an (Kd.R_elder' (by exact Kd.R_nw HO_396000.out) (Kd.R_base ho0) hb) (an (Kd.R_below (by exact Kd.R_nw HO_401001.out) hb) (an (Kd.R_elder' (by exact Kd.R_nw HO_412000.out) (Kd.R_base ho0) hb) (an (Kd.R_elder' (by exact Kd.R_nw HO437.out) (Kd.R_base ho0) hb) (an (Kd.R_below (by exact Kd.R_nw HO446.out) hb) (an (Kd.R_lower (Kd.R_new' (Kd.R_new' (Kd.R_new' (Kd.R_new' ho0 (Kd.R_lt (by exact Kd.R_nw HO_387000.out))) (Kd.R_lt (by exact Kd.R_nw HO_396000.out))) (Kd.R_lt (by exact Kd.R_nw HO_412000.out))) (Kd.R_lt (by exact Kd.R_nw HO437.out))) (below_size (by exact bel0))) (an (blk_below (blk_nw BK360.out) hb) (an (blk_below (blk_nw BK361.out) hb) (an (blk_below (blk_nw BK386.out) hb) (an (blk_below (blk_nw BK395.out) hb) (an (blk_below (blk_nw BK400.out) hb) (an (blk_below (blk_nw BK411.out) hb) (an (blk_below (blk_nw BK457.out) hb) (an (below_step (by exact bel0) hb) (trivial)))))))))))))))
                                  clear HO_387000 HO_396000 HO_401001 HO_412000 HO437 HO446 BK360 BK361 BK386 BK395 BK400 BK411 BK457 HB
                                  obtain ⟨HO_387000, HO_396000, HO_401001, HO_412000, HO437, HO446, HO449, BK360, BK361, BK386, BK395, BK400, BK411, BK457, HB, -⟩ := n_
                                  (try clear hb)
                                  (try clear hb2)
                                  (try clear hk)
                                  (try clear hi)
                                  (try clear ho0)
                                  refine hK.out _ _ ⟨(blk_cell BK360.out 0).trans rfl, (blk_cell BK360.out 1).trans rfl, (blk_cell BK360.out 2).trans rfl, (blk_cell BK360.out 3).trans rfl, (blk_cell BK360.out 4).trans rfl, (blk_cell BK360.out 5).trans rfl, (blk_cell BK361.out 0).trans rfl, (blk_cell BK361.out 1).trans rfl⟩ (fun hHeld => ?_)
                                  clear hK K
                                  refine norm_ (a' := ?_) ?_ ?_
                                  rotate_left
                                  · show Act.put _ (some 114) _ = _
                                    simp only [Act.put, List.setIfInBounds_toArray, List.set_cons_zero, List.set_cons_succ, i64_w, i32_w]
                                    rfl
                                  refine pure_ (i := 5) (N := some 109) (v := ?_) (a' := ?_) #[true, true, true, true, true, true, false, false, false, true, false, false, false] rfl rfl (any_of HT_.out (by kernel_rfl)) (fun _ _ _ h => h) (Or.inl ⟨by rfl, ?_⟩) ?_ ?_
                                  rotate_left; · intro w'; go_simp; with_reducible rfl
                                  rotate_left; · simp only [Act.put, List.setIfInBounds_toArray, List.set_cons_zero, List.set_cons_succ, i64_w, i32_w]; rfl
                                  refine pure_ (i := 6) (N := some 115) (v := ?_) (a' := ?_) #[true, true, true, true, true, true, true, false, false, true, false, false, false] rfl rfl (any_of HT_.out (by kernel_rfl)) (fun _ _ _ h => h) (Or.inl ⟨by rfl, ?_⟩) ?_ ?_
                                  rotate_left; · intro w'; go_simp; with_reducible rfl
                                  rotate_left; · simp only [Act.put, List.setIfInBounds_toArray, List.set_cons_zero, List.set_cons_succ, i64_w, i32_w]; rfl
                                  refine pure_ (i := 7) (N := some 116) (v := ?_) (a' := ?_) #[true, true, true, true, true, true, true, true, false, true, false, false, false] rfl rfl (any_of HT_.out (by kernel_rfl)) (fun _ _ _ h => h) (Or.inl ⟨by rfl, ?_⟩) ?_ ?_
                                  rotate_left; · intro w'; go_simp; with_reducible rfl
                                  rotate_left; · simp only [Act.put, List.setIfInBounds_toArray, List.set_cons_zero, List.set_cons_succ, i64_w, i32_w]; rfl
                                  refine pure_ (i := 8) (N := some 117) (v := ?_) (a' := ?_) #[true, true, true, true, true, true, true, true, true, true, false, false, false] rfl rfl (any_of HT_.out (by kernel_rfl)) (fun _ _ _ h => h) (Or.inl ⟨by rfl, ?_⟩) ?_ ?_
                                  rotate_left; · intro w'; go_simp; with_reducible rfl
                                  rotate_left; · simp only [Act.put, List.setIfInBounds_toArray, List.set_cons_zero, List.set_cons_succ, i64_w, i32_w]; rfl
                                  exact norm_ (by simp only [putAll, Act.put, List.setIfInBounds_toArray, List.set_cons_zero, List.set_cons_succ]) (hCont (.slice Ao151 t435.length co151, .slice Ao152 t444.length co152, v448, gb457) _ ⟨hHeld, (by exact Kd.R_nw (Kd.R_mono HO437.out (fun _ hk => ⟨hk.2, ⟨hk.1.1.1.2, ⟨hk.1.1.2, hk.1.2⟩⟩⟩))), (by exact Kd.R_nw (Kd.R_mono HO446.out (fun _ hk => hk.2))), (by exact Kd.R_nw (Kd.R_mono HO449.out (fun _ hk => ⟨hk.2, ⟨hk.1.1.1.2, ⟨hk.1.1.2, hk.1.2⟩⟩⟩))), (by exact Kd.R_nw (Kd.R_mono HO_387000.out (fun _ hk => ⟨hk.1.2, ⟨hk.2, ⟨hk.1.1.1, hk.1.1.2⟩⟩⟩))), (by exact Kd.R_nw (Kd.R_mono HO_396000.out (fun _ hk => ⟨hk.1.2, ⟨hk.2, ⟨hk.1.1.1, hk.1.1.2⟩⟩⟩))), (by exact Kd.R_nw (Kd.R_mono HO_401001.out (fun _ hk => hk.2))), (by exact Kd.R_nw (Kd.R_mono HO_412000.out (fun _ hk => ⟨hk.1.2, ⟨hk.2, ⟨hk.1.1.1, hk.1.1.2⟩⟩⟩))), (by exact blk_nw BK360.out), (by exact blk_nw BK361.out), (by exact blk_nw BK386.out), (by exact blk_nw BK395.out), (by exact blk_nw BK400.out), (by exact blk_nw BK411.out), (by exact blk_nw BK457.out), GW457.out, GE457.out, NB360_457.out, NB457_360.out, NB361_457.out, NB457_361.out, NB386_457.out, NB457_386.out, NB395_457.out, NB457_395.out, NB400_457.out, NB457_400.out, NB411_457.out, NB457_411.out, (by exact bel0)⟩)
                              · skip
                                refine box_step ?hg (N := 17) ?hd (cs := #[.slice none 0 0, .int .i64 0, .int .i64 0, .int .i64 0, .int .i64 0, .int .i64 0]) (t := 90) ?hr ?_; (case hd => rfl); (case hg => rfl); (case hr => first | (go_simp; done) | (go_simp; rfl))
                                intro gb457 hg w149 hbox hb
                                have n_ := an (Kd.R_below (by exact Kd.R_nw HO_387000.out) hb) (an (Kd.R_below (by exact Kd.R_nw HO_396000.out) hb) (an (Kd.R_below (by exact Kd.R_nw HO_401001.out) hb) (an (Kd.R_below (by exact Kd.R_nw HO_412000.out) hb) (an (Kd.R_below (by exact Kd.R_nw HO437.out) hb) (an (blk_below (blk_nw BK360.out) hb) (an (blk_below (blk_nw BK361.out) hb) (an (blk_below (blk_nw BK386.out) hb) (an (blk_below (blk_nw BK395.out) hb) (an (blk_below (blk_nw BK400.out) hb) (an (blk_below (blk_nw BK411.out) hb) (an (below_step (by exact bel0) hb) (an (hbox) (an ((by rw [hg]; exact (below_size (by exact bel0)) : w.heap.size ≤ gb457)) (an ((by rw [hg]; exact (below_size (by exact bel0)) : w.heap.size ≤ gb457)) (an ((by rw [hg]; exact Nat.ne_of_lt (blk_lt (blk_nw BK360.out)) : gb360 ≠ gb457)) (an ((by rw [hg]; exact Nat.ne_of_gt (blk_lt (blk_nw BK360.out)) : gb457 ≠ gb360)) (an ((by rw [hg]; exact Nat.ne_of_lt (blk_lt (blk_nw BK361.out)) : gb361 ≠ gb457)) (an ((by rw [hg]; exact Nat.ne_of_gt (blk_lt (blk_nw BK361.out)) : gb457 ≠ gb361)) (an ((by rw [hg]; exact Nat.ne_of_lt (blk_lt (blk_nw BK386.out)) : gb386 ≠ gb457)) (an ((by rw [hg]; exact Nat.ne_of_gt (blk_lt (blk_nw BK386.out)) : gb457 ≠ gb386)) (an ((by rw [hg]; exact Nat.ne_of_lt (blk_lt (blk_nw BK395.out)) : gb395 ≠ gb457)) (an ((by rw [hg]; exact Nat.ne_of_gt (blk_lt (blk_nw BK395.out)) : gb457 ≠ gb395)) (an ((by rw [hg]; exact Nat.ne_of_lt (blk_lt (blk_nw BK400.out)) : gb400 ≠ gb457)) (an ((by rw [hg]; exact Nat.ne_of_gt (blk_lt (blk_nw BK400.out)) : gb457 ≠ gb400)) (an ((by rw [hg]; exact Nat.ne_of_lt (blk_lt (blk_nw BK411.out)) : gb411 ≠ gb457)) (an ((by rw [hg]; exact Nat.ne_of_gt (blk_lt (blk_nw BK411.out)) : gb457 ≠ gb411)) (trivial)))))))))))))))))))))))))))
                                clear HO_387000 HO_396000 HO_401001 HO_412000 HO437 BK360 BK361 BK386 BK395 BK400 BK411 HB
                                obtain ⟨HO_387000, HO_396000, HO_401001, HO_412000, HO437, BK360, BK361, BK386, BK395, BK400, BK411, HB, BK457, GW457, GE457, NB360_457, NB457_360, NB361_457, NB457_361, NB386_457, NB457_386, NB395_457, NB457_395, NB400_457, NB457_400, NB411_457, NB457_411, -⟩ := n_
                                clear hb hbox hg
                                refine hK.out _ _ ⟨(blk_cell BK360.out 0).trans rfl, (blk_cell BK360.out 1).trans rfl, (blk_cell BK360.out 2).trans rfl, (blk_cell BK360.out 3).trans rfl, (blk_cell BK360.out 4).trans rfl, (blk_cell BK360.out 5).trans rfl, (blk_cell BK361.out 0).trans rfl, (blk_cell BK361.out 1).trans rfl⟩ (fun hHeld => ?_)
                                clear hK K
                                refine norm_ (a' := ?_) ?_ ?_
                                rotate_left
                                · show Act.put _ (some 17) _ = _
                                  simp only [Act.put, List.setIfInBounds_toArray, List.set_cons_zero, List.set_cons_succ, i64_w, i32_w]
                                  rfl
                                refine one_ (i := 3) (N := some 113) #[true, true, true, true, false, false, false, false, false, true, false, false, false] rfl rfl (one_of HT_.out (by kernel_rfl)) (by decide) (fun K hK => ?_)
                                refine goes_ Try.func25 (by kernel_rfl) rfl #[.agg #[.int .i64 a1_0, .slice A1_1 l1_1.length c1_1]] (by rfl) rfl rfl (by (try simp only [List.map_toArray, List.map_cons, List.map_nil]); first | done | rfl | (simp only [List.length_drop, List.length_take]; rfl)) ?_
                                with_reducible refine (laws_toTable.calls kj98 a1_0 _ _ l1_1 t443 t444 _ ?side1 ?side2 A144.out).mono ?_
                                (case side1 => repeat (first | exact (Kd.C_below HR1_1.out HB.out) | (with_reducible refine Kd.C_alloc ?_ _) | (with_reducible refine Kd.C_drewN ?_ _) | (with_reducible refine Kd.C_drew ?_)))
                                (case side2 => exact HC1_1.out)
                                rintro e w150 ⟨v445, rfl, ho0, hb⟩
                                refine ⟨_, rfl, ?_⟩
                                have n_ := an (Kd.R_below (by exact Kd.R_nw HO_387000.out) hb) (an (Kd.R_below (by exact Kd.R_nw HO_396000.out) hb) (an (Kd.R_elder' (by exact Kd.R_nw HO_401001.out) (Kd.R_base ho0) hb) (an (Kd.R_below (by exact Kd.R_nw HO_412000.out) hb) (an (Kd.R_below (by exact Kd.R_nw HO437.out) hb) (an (Kd.R_lower (Kd.R_new' ho0 (Kd.R_lt (by exact Kd.R_nw HO_401001.out))) (below_size (by exact bel0))) (an (blk_below (blk_nw BK360.out) hb) (an (blk_below (blk_nw BK361.out) hb) (an (blk_below (blk_nw BK386.out) hb) (an (blk_below (blk_nw BK395.out) hb) (an (blk_below (blk_nw BK400.out) hb) (an (blk_below (blk_nw BK411.out) hb) (an (blk_below (blk_nw BK457.out) hb) (an (below_step (by exact bel0) hb) (trivial))))))))))))))
                                clear HO_387000 HO_396000 HO_401001 HO_412000 HO437 BK360 BK361 BK386 BK395 BK400 BK411 BK457 HB
                                obtain ⟨HO_387000, HO_396000, HO_401001, HO_412000, HO437, HO446, BK360, BK361, BK386, BK395, BK400, BK411, BK457, HB, -⟩ := n_
                                (try clear hb)
                                (try clear hb2)
                                (try clear hk)
                                (try clear hi)
                                (try clear ho0)
                                obtain ⟨Ao151, co151, eo151⟩ := Kd.R_slice HO437.out
                                (first | subst eo151 | (injection eo151 with f1_ f2_ f3_; have f4_ := f1_.symm; have f5_ := f3_.symm; clear f1_ f2_ f3_; subst f4_; subst f5_))
                                obtain ⟨Ao152, co152, eo152⟩ := Kd.R_slice HO446.out
                                (first | subst eo152 | (injection eo152 with f1_ f2_ f3_; have f4_ := f1_.symm; have f5_ := f3_.symm; clear f1_ f2_ f3_; subst f4_; subst f5_))
                                refine hK.out _ _ ⟨(blk_cell BK360.out 0).trans rfl, (blk_cell BK360.out 1).trans rfl, (blk_cell BK360.out 2).trans rfl, (blk_cell BK360.out 3).trans rfl, (blk_cell BK360.out 4).trans rfl, (blk_cell BK360.out 5).trans rfl, (blk_cell BK361.out 0).trans rfl, (blk_cell BK361.out 1).trans rfl⟩ (fun hHeld => ?_)
                                clear hK K
                                refine norm_ (a' := ?_) ?_ ?_
                                rotate_left
                                · show Act.put _ (some 113) _ = _
                                  simp only [Act.put, List.setIfInBounds_toArray, List.set_cons_zero, List.set_cons_succ, i64_w, i32_w]
                                  rfl
                                refine one_ (i := 4) (N := some 114) #[true, true, true, true, true, false, false, false, false, true, false, false, false] rfl rfl (one_of HT_.out (by kernel_rfl)) (by decide) (fun K hK => ?_)
                                refine goes_ Try.func66 (by kernel_rfl) rfl #[.agg #[.slice Ao151 t435.length co151, .int .i64 t438, .int .i64 t439, .int .i64 t440, .int .i64 t441, .int .i64 t442], .agg #[.int .i64 t443, .slice Ao152 t444.length co152]] (by rfl) rfl rfl (by (try simp only [List.map_toArray, List.map_cons, List.map_nil]); first | done | rfl | (simp only [List.length_drop, List.length_take]; rfl)) ?_
                                with_reducible refine (impl_ProbeTick.calls kj98 _ _ t435 t438 t439 t440 t441 t442 t443 _ _ t444 t447 t450 t451 t452 t453 t454 t455 t456 _ ?side1 ?side2 ?side3 ?side4 A145.out).mono ?_
                                (case side1 => repeat (first | exact (Kd.R_reads' HO437.out).2.2 | (with_reducible refine Kd.C_alloc ?_ _) | (with_reducible refine Kd.C_drewN ?_ _) | (with_reducible refine Kd.C_drew ?_)))
                                (case side2 => exact (Kd.R_reads' HO437.out).2.1)
                                (case side3 => repeat (first | exact (Kd.R_reads' HO446.out).2.2 | (with_reducible refine Kd.C_alloc ?_ _) | (with_reducible refine Kd.C_drewN ?_ _) | (with_reducible refine Kd.C_drew ?_)))
                                (case side4 => exact (Kd.R_reads' HO446.out).2.1)
                                rintro e w153 ⟨v448, rfl, ho0, hb⟩
                                refine ⟨_, rfl, ?_⟩
                                have n_ := an (Kd.R_elder' (by exact Kd.R_nw HO_387000.out) (Kd.R_base ho0) hb) (an (Kd.R_elder' (by exact Kd.R_nw HO_396000.out) (Kd.R_base ho0) hb) (an (Kd.R_below (by exact Kd.R_nw HO_401001.out) hb) (an (Kd.R_elder' (by exact Kd.R_nw HO_412000.out) (Kd.R_base ho0) hb) (an (Kd.R_elder' (by exact Kd.R_nw HO437.out) (Kd.R_base ho0) hb) (an (Kd.R_below (by exact Kd.R_nw HO446.out) hb) (an (Kd.R_lower (Kd.R_new' (Kd.R_new' (Kd.R_new' (Kd.R_new' ho0 (Kd.R_lt (by exact Kd.R_nw HO_387000.out))) (Kd.R_lt (by exact Kd.R_nw HO_396000.out))) (Kd.R_lt (by exact Kd.R_nw HO_412000.out))) (Kd.R_lt (by exact Kd.R_nw HO437.out))) (below_size (by exact bel0))) (an (blk_below (blk_nw BK360.out) hb) (an (blk_below (blk_nw BK361.out) hb) (an (blk_below (blk_nw BK386.out) hb) (an (blk_below (blk_nw BK395.out) hb) (an (blk_below (blk_nw BK400.out) hb) (an (blk_below (blk_nw BK411.out) hb) (an (blk_below (blk_nw BK457.out) hb) (an (below_step (by exact bel0) hb) (trivial)))))))))))))))
                                clear HO_387000 HO_396000 HO_401001 HO_412000 HO437 HO446 BK360 BK361 BK386 BK395 BK400 BK411 BK457 HB
                                obtain ⟨HO_387000, HO_396000, HO_401001, HO_412000, HO437, HO446, HO449, BK360, BK361, BK386, BK395, BK400, BK411, BK457, HB, -⟩ := n_
                                (try clear hb)
                                (try clear hb2)
                                (try clear hk)
                                (try clear hi)
                                (try clear ho0)
                                refine hK.out _ _ ⟨(blk_cell BK360.out 0).trans rfl, (blk_cell BK360.out 1).trans rfl, (blk_cell BK360.out 2).trans rfl, (blk_cell BK360.out 3).trans rfl, (blk_cell BK360.out 4).trans rfl, (blk_cell BK360.out 5).trans rfl, (blk_cell BK361.out 0).trans rfl, (blk_cell BK361.out 1).trans rfl⟩ (fun hHeld => ?_)
                                clear hK K
                                refine norm_ (a' := ?_) ?_ ?_
                                rotate_left
                                · show Act.put _ (some 114) _ = _
                                  simp only [Act.put, List.setIfInBounds_toArray, List.set_cons_zero, List.set_cons_succ, i64_w, i32_w]
                                  rfl
                                refine pure_ (i := 5) (N := some 109) (v := ?_) (a' := ?_) #[true, true, true, true, true, true, false, false, false, true, false, false, false] rfl rfl (any_of HT_.out (by kernel_rfl)) (fun _ _ _ h => h) (Or.inl ⟨by rfl, ?_⟩) ?_ ?_
                                rotate_left; · intro w'; go_simp; with_reducible rfl
                                rotate_left; · simp only [Act.put, List.setIfInBounds_toArray, List.set_cons_zero, List.set_cons_succ, i64_w, i32_w]; rfl
                                refine pure_ (i := 6) (N := some 115) (v := ?_) (a' := ?_) #[true, true, true, true, true, true, true, false, false, true, false, false, false] rfl rfl (any_of HT_.out (by kernel_rfl)) (fun _ _ _ h => h) (Or.inl ⟨by rfl, ?_⟩) ?_ ?_
                                rotate_left; · intro w'; go_simp; with_reducible rfl
                                rotate_left; · simp only [Act.put, List.setIfInBounds_toArray, List.set_cons_zero, List.set_cons_succ, i64_w, i32_w]; rfl
                                refine pure_ (i := 7) (N := some 116) (v := ?_) (a' := ?_) #[true, true, true, true, true, true, true, true, false, true, false, false, false] rfl rfl (any_of HT_.out (by kernel_rfl)) (fun _ _ _ h => h) (Or.inl ⟨by rfl, ?_⟩) ?_ ?_
                                rotate_left; · intro w'; go_simp; with_reducible rfl
                                rotate_left; · simp only [Act.put, List.setIfInBounds_toArray, List.set_cons_zero, List.set_cons_succ, i64_w, i32_w]; rfl
                                refine pure_ (i := 8) (N := some 117) (v := ?_) (a' := ?_) #[true, true, true, true, true, true, true, true, true, true, false, false, false] rfl rfl (any_of HT_.out (by kernel_rfl)) (fun _ _ _ h => h) (Or.inl ⟨by rfl, ?_⟩) ?_ ?_
                                rotate_left; · intro w'; go_simp; with_reducible rfl
                                rotate_left; · simp only [Act.put, List.setIfInBounds_toArray, List.set_cons_zero, List.set_cons_succ, i64_w, i32_w]; rfl
                                exact norm_ (by simp only [putAll, Act.put, List.setIfInBounds_toArray, List.set_cons_zero, List.set_cons_succ]) (hCont (.slice Ao151 t435.length co151, .slice Ao152 t444.length co152, v448, gb457) _ ⟨hHeld, (by exact Kd.R_nw (Kd.R_mono HO437.out (fun _ hk => ⟨hk.2, ⟨hk.1.1.1.2, ⟨hk.1.1.2, hk.1.2⟩⟩⟩))), (by exact Kd.R_nw (Kd.R_mono HO446.out (fun _ hk => hk.2))), (by exact Kd.R_nw (Kd.R_mono HO449.out (fun _ hk => ⟨hk.2, ⟨hk.1.1.1.2, ⟨hk.1.1.2, hk.1.2⟩⟩⟩))), (by exact Kd.R_nw (Kd.R_mono HO_387000.out (fun _ hk => ⟨hk.1.2, ⟨hk.2, ⟨hk.1.1.1, hk.1.1.2⟩⟩⟩))), (by exact Kd.R_nw (Kd.R_mono HO_396000.out (fun _ hk => ⟨hk.1.2, ⟨hk.2, ⟨hk.1.1.1, hk.1.1.2⟩⟩⟩))), (by exact Kd.R_nw (Kd.R_mono HO_401001.out (fun _ hk => hk.2))), (by exact Kd.R_nw (Kd.R_mono HO_412000.out (fun _ hk => ⟨hk.1.2, ⟨hk.2, ⟨hk.1.1.1, hk.1.1.2⟩⟩⟩))), (by exact blk_nw BK360.out), (by exact blk_nw BK361.out), (by exact blk_nw BK386.out), (by exact blk_nw BK395.out), (by exact blk_nw BK400.out), (by exact blk_nw BK411.out), (by exact blk_nw BK457.out), GW457.out, GE457.out, NB360_457.out, NB457_360.out, NB361_457.out, NB457_361.out, NB386_457.out, NB457_386.out, NB395_457.out, NB457_395.out, NB400_457.out, NB457_400.out, NB411_457.out, NB457_411.out, (by exact bel0)⟩)
                            · skip
                              refine box_step ?hg (N := 17) ?hd (cs := #[.slice none 0 0, .int .i64 0, .int .i64 0, .int .i64 0, .int .i64 0, .int .i64 0]) (t := 90) ?hr ?_; (case hd => rfl); (case hg => rfl); (case hr => first | (go_simp; done) | (go_simp; rfl))
                              intro gb457 hg w148 hbox hb
                              have n_ := an (Kd.R_below (by exact Kd.R_nw HO_387000.out) hb) (an (Kd.R_below (by exact Kd.R_nw HO_396000.out) hb) (an (Kd.R_below (by exact Kd.R_nw HO_401001.out) hb) (an (Kd.R_below (by exact Kd.R_nw HO_412000.out) hb) (an (blk_below (blk_nw BK360.out) hb) (an (blk_below (blk_nw BK361.out) hb) (an (blk_below (blk_nw BK386.out) hb) (an (blk_below (blk_nw BK395.out) hb) (an (blk_below (blk_nw BK400.out) hb) (an (blk_below (blk_nw BK411.out) hb) (an (below_step (by exact bel0) hb) (an (hbox) (an ((by rw [hg]; exact (below_size (by exact bel0)) : w.heap.size ≤ gb457)) (an ((by rw [hg]; exact (below_size (by exact bel0)) : w.heap.size ≤ gb457)) (an ((by rw [hg]; exact Nat.ne_of_lt (blk_lt (blk_nw BK360.out)) : gb360 ≠ gb457)) (an ((by rw [hg]; exact Nat.ne_of_gt (blk_lt (blk_nw BK360.out)) : gb457 ≠ gb360)) (an ((by rw [hg]; exact Nat.ne_of_lt (blk_lt (blk_nw BK361.out)) : gb361 ≠ gb457)) (an ((by rw [hg]; exact Nat.ne_of_gt (blk_lt (blk_nw BK361.out)) : gb457 ≠ gb361)) (an ((by rw [hg]; exact Nat.ne_of_lt (blk_lt (blk_nw BK386.out)) : gb386 ≠ gb457)) (an ((by rw [hg]; exact Nat.ne_of_gt (blk_lt (blk_nw BK386.out)) : gb457 ≠ gb386)) (an ((by rw [hg]; exact Nat.ne_of_lt (blk_lt (blk_nw BK395.out)) : gb395 ≠ gb457)) (an ((by rw [hg]; exact Nat.ne_of_gt (blk_lt (blk_nw BK395.out)) : gb457 ≠ gb395)) (an ((by rw [hg]; exact Nat.ne_of_lt (blk_lt (blk_nw BK400.out)) : gb400 ≠ gb457)) (an ((by rw [hg]; exact Nat.ne_of_gt (blk_lt (blk_nw BK400.out)) : gb457 ≠ gb400)) (an ((by rw [hg]; exact Nat.ne_of_lt (blk_lt (blk_nw BK411.out)) : gb411 ≠ gb457)) (an ((by rw [hg]; exact Nat.ne_of_gt (blk_lt (blk_nw BK411.out)) : gb457 ≠ gb411)) (trivial))))))))))))))))))))))))))
                              clear HO_387000 HO_396000 HO_401001 HO_412000 BK360 BK361 BK386 BK395 BK400 BK411 HB
                              obtain ⟨HO_387000, HO_396000, HO_401001, HO_412000, BK360, BK361, BK386, BK395, BK400, BK411, HB, BK457, GW457, GE457, NB360_457, NB457_360, NB361_457, NB457_361, NB386_457, NB457_386, NB395_457, NB457_395, NB400_457, NB457_400, NB411_457, NB457_411, -⟩ := n_
                              clear hb hbox hg
                              refine hK.out _ _ ⟨(blk_cell BK360.out 0).trans rfl, (blk_cell BK360.out 1).trans rfl, (blk_cell BK360.out 2).trans rfl, (blk_cell BK360.out 3).trans rfl, (blk_cell BK360.out 4).trans rfl, (blk_cell BK360.out 5).trans rfl, (blk_cell BK361.out 0).trans rfl, (blk_cell BK361.out 1).trans rfl⟩ (fun hHeld => ?_)
                              clear hK K
                              refine norm_ (a' := ?_) ?_ ?_
                              rotate_left
                              · show Act.put _ (some 17) _ = _
                                simp only [Act.put, List.setIfInBounds_toArray, List.set_cons_zero, List.set_cons_succ, i64_w, i32_w]
                                rfl
                              refine one_ (i := 1) (N := some 111) #[true, true, true, false, false, false, false, false, false, true, false, false, false] rfl rfl (one_of HT_.out (by kernel_rfl)) (by decide) (fun K hK => ?_)
                              refine goes_ Try.func58 (by kernel_rfl) rfl #[.agg #[.slice A0_0 l0_0.length c0_0, .int .i64 a0_1, .int .i64 a0_2, .int .i64 a0_3, .int .i64 a0_4, .int .i64 a0_5]] (by rfl) rfl rfl (by (try simp only [List.map_toArray, List.map_cons, List.map_nil]); first | done | rfl | (simp only [List.length_drop, List.length_take]; rfl)) ?_
                              with_reducible refine (laws_toProber.calls kj98 _ _ l0_0 a0_1 a0_2 a0_3 a0_4 a0_5 t435 t438 t439 t440 t441 t442 _ ?side1 ?side2 A143.out).mono ?_
                              (case side1 => repeat (first | exact (Kd.C_below HR0_0.out HB.out) | (with_reducible refine Kd.C_alloc ?_ _) | (with_reducible refine Kd.C_drewN ?_ _) | (with_reducible refine Kd.C_drew ?_)))
                              (case side2 => exact HC0_0.out)
                              rintro e w149 ⟨v436, rfl, ho0, hb⟩
                              refine ⟨_, rfl, ?_⟩
                              have n_ := an (Kd.R_elder' (by exact Kd.R_nw HO_387000.out) (Kd.R_base ho0) hb) (an (Kd.R_elder' (by exact Kd.R_nw HO_396000.out) (Kd.R_base ho0) hb) (an (Kd.R_below (by exact Kd.R_nw HO_401001.out) hb) (an (Kd.R_elder' (by exact Kd.R_nw HO_412000.out) (Kd.R_base ho0) hb) (an (Kd.R_lower (Kd.R_new' (Kd.R_new' (Kd.R_new' ho0 (Kd.R_lt (by exact Kd.R_nw HO_387000.out))) (Kd.R_lt (by exact Kd.R_nw HO_396000.out))) (Kd.R_lt (by exact Kd.R_nw HO_412000.out))) (below_size (by exact bel0))) (an (blk_below (blk_nw BK360.out) hb) (an (blk_below (blk_nw BK361.out) hb) (an (blk_below (blk_nw BK386.out) hb) (an (blk_below (blk_nw BK395.out) hb) (an (blk_below (blk_nw BK400.out) hb) (an (blk_below (blk_nw BK411.out) hb) (an (blk_below (blk_nw BK457.out) hb) (an (below_step (by exact bel0) hb) (trivial)))))))))))))
                              clear HO_387000 HO_396000 HO_401001 HO_412000 BK360 BK361 BK386 BK395 BK400 BK411 BK457 HB
                              obtain ⟨HO_387000, HO_396000, HO_401001, HO_412000, HO437, BK360, BK361, BK386, BK395, BK400, BK411, BK457, HB, -⟩ := n_
                              (try clear hb)
                              (try clear hb2)
                              (try clear hk)
                              (try clear hi)
                              (try clear ho0)
                              refine hK.out _ _ ⟨(blk_cell BK360.out 0).trans rfl, (blk_cell BK360.out 1).trans rfl, (blk_cell BK360.out 2).trans rfl, (blk_cell BK360.out 3).trans rfl, (blk_cell BK360.out 4).trans rfl, (blk_cell BK360.out 5).trans rfl, (blk_cell BK361.out 0).trans rfl, (blk_cell BK361.out 1).trans rfl⟩ (fun hHeld => ?_)
                              clear hK K
                              refine norm_ (a' := ?_) ?_ ?_
                              rotate_left
                              · show Act.put _ (some 111) _ = _
                                simp only [Act.put, List.setIfInBounds_toArray, List.set_cons_zero, List.set_cons_succ, i64_w, i32_w]
                                rfl
                              refine one_ (i := 3) (N := some 113) #[true, true, true, true, false, false, false, false, false, true, false, false, false] rfl rfl (one_of HT_.out (by kernel_rfl)) (by decide) (fun K hK => ?_)
                              refine goes_ Try.func25 (by kernel_rfl) rfl #[.agg #[.int .i64 a1_0, .slice A1_1 l1_1.length c1_1]] (by rfl) rfl rfl (by (try simp only [List.map_toArray, List.map_cons, List.map_nil]); first | done | rfl | (simp only [List.length_drop, List.length_take]; rfl)) ?_
                              with_reducible refine (laws_toTable.calls kj98 a1_0 _ _ l1_1 t443 t444 _ ?side1 ?side2 A144.out).mono ?_
                              (case side1 => repeat (first | exact (Kd.C_below HR1_1.out HB.out) | (with_reducible refine Kd.C_alloc ?_ _) | (with_reducible refine Kd.C_drewN ?_ _) | (with_reducible refine Kd.C_drew ?_)))
                              (case side2 => exact HC1_1.out)
                              rintro e w150 ⟨v445, rfl, ho0, hb⟩
                              refine ⟨_, rfl, ?_⟩
                              have n_ := an (Kd.R_below (by exact Kd.R_nw HO_387000.out) hb) (an (Kd.R_below (by exact Kd.R_nw HO_396000.out) hb) (an (Kd.R_elder' (by exact Kd.R_nw HO_401001.out) (Kd.R_base ho0) hb) (an (Kd.R_below (by exact Kd.R_nw HO_412000.out) hb) (an (Kd.R_below (by exact Kd.R_nw HO437.out) hb) (an (Kd.R_lower (Kd.R_new' ho0 (Kd.R_lt (by exact Kd.R_nw HO_401001.out))) (below_size (by exact bel0))) (an (blk_below (blk_nw BK360.out) hb) (an (blk_below (blk_nw BK361.out) hb) (an (blk_below (blk_nw BK386.out) hb) (an (blk_below (blk_nw BK395.out) hb) (an (blk_below (blk_nw BK400.out) hb) (an (blk_below (blk_nw BK411.out) hb) (an (blk_below (blk_nw BK457.out) hb) (an (below_step (by exact bel0) hb) (trivial))))))))))))))
                              clear HO_387000 HO_396000 HO_401001 HO_412000 HO437 BK360 BK361 BK386 BK395 BK400 BK411 BK457 HB
                              obtain ⟨HO_387000, HO_396000, HO_401001, HO_412000, HO437, HO446, BK360, BK361, BK386, BK395, BK400, BK411, BK457, HB, -⟩ := n_
                              (try clear hb)
                              (try clear hb2)
                              (try clear hk)
                              (try clear hi)
                              (try clear ho0)
                              obtain ⟨Ao151, co151, eo151⟩ := Kd.R_slice HO437.out
                              (first | subst eo151 | (injection eo151 with f1_ f2_ f3_; have f4_ := f1_.symm; have f5_ := f3_.symm; clear f1_ f2_ f3_; subst f4_; subst f5_))
                              obtain ⟨Ao152, co152, eo152⟩ := Kd.R_slice HO446.out
                              (first | subst eo152 | (injection eo152 with f1_ f2_ f3_; have f4_ := f1_.symm; have f5_ := f3_.symm; clear f1_ f2_ f3_; subst f4_; subst f5_))
                              refine hK.out _ _ ⟨(blk_cell BK360.out 0).trans rfl, (blk_cell BK360.out 1).trans rfl, (blk_cell BK360.out 2).trans rfl, (blk_cell BK360.out 3).trans rfl, (blk_cell BK360.out 4).trans rfl, (blk_cell BK360.out 5).trans rfl, (blk_cell BK361.out 0).trans rfl, (blk_cell BK361.out 1).trans rfl⟩ (fun hHeld => ?_)
                              clear hK K
                              refine norm_ (a' := ?_) ?_ ?_
                              rotate_left
                              · show Act.put _ (some 113) _ = _
                                simp only [Act.put, List.setIfInBounds_toArray, List.set_cons_zero, List.set_cons_succ, i64_w, i32_w]
                                rfl
                              refine one_ (i := 4) (N := some 114) #[true, true, true, true, true, false, false, false, false, true, false, false, false] rfl rfl (one_of HT_.out (by kernel_rfl)) (by decide) (fun K hK => ?_)
                              refine goes_ Try.func66 (by kernel_rfl) rfl #[.agg #[.slice Ao151 t435.length co151, .int .i64 t438, .int .i64 t439, .int .i64 t440, .int .i64 t441, .int .i64 t442], .agg #[.int .i64 t443, .slice Ao152 t444.length co152]] (by rfl) rfl rfl (by (try simp only [List.map_toArray, List.map_cons, List.map_nil]); first | done | rfl | (simp only [List.length_drop, List.length_take]; rfl)) ?_
                              with_reducible refine (impl_ProbeTick.calls kj98 _ _ t435 t438 t439 t440 t441 t442 t443 _ _ t444 t447 t450 t451 t452 t453 t454 t455 t456 _ ?side1 ?side2 ?side3 ?side4 A145.out).mono ?_
                              (case side1 => repeat (first | exact (Kd.R_reads' HO437.out).2.2 | (with_reducible refine Kd.C_alloc ?_ _) | (with_reducible refine Kd.C_drewN ?_ _) | (with_reducible refine Kd.C_drew ?_)))
                              (case side2 => exact (Kd.R_reads' HO437.out).2.1)
                              (case side3 => repeat (first | exact (Kd.R_reads' HO446.out).2.2 | (with_reducible refine Kd.C_alloc ?_ _) | (with_reducible refine Kd.C_drewN ?_ _) | (with_reducible refine Kd.C_drew ?_)))
                              (case side4 => exact (Kd.R_reads' HO446.out).2.1)
                              rintro e w153 ⟨v448, rfl, ho0, hb⟩
                              refine ⟨_, rfl, ?_⟩
                              have n_ := an (Kd.R_elder' (by exact Kd.R_nw HO_387000.out) (Kd.R_base ho0) hb) (an (Kd.R_elder' (by exact Kd.R_nw HO_396000.out) (Kd.R_base ho0) hb) (an (Kd.R_below (by exact Kd.R_nw HO_401001.out) hb) (an (Kd.R_elder' (by exact Kd.R_nw HO_412000.out) (Kd.R_base ho0) hb) (an (Kd.R_elder' (by exact Kd.R_nw HO437.out) (Kd.R_base ho0) hb) (an (Kd.R_below (by exact Kd.R_nw HO446.out) hb) (an (Kd.R_lower (Kd.R_new' (Kd.R_new' (Kd.R_new' (Kd.R_new' ho0 (Kd.R_lt (by exact Kd.R_nw HO_387000.out))) (Kd.R_lt (by exact Kd.R_nw HO_396000.out))) (Kd.R_lt (by exact Kd.R_nw HO_412000.out))) (Kd.R_lt (by exact Kd.R_nw HO437.out))) (below_size (by exact bel0))) (an (blk_below (blk_nw BK360.out) hb) (an (blk_below (blk_nw BK361.out) hb) (an (blk_below (blk_nw BK386.out) hb) (an (blk_below (blk_nw BK395.out) hb) (an (blk_below (blk_nw BK400.out) hb) (an (blk_below (blk_nw BK411.out) hb) (an (blk_below (blk_nw BK457.out) hb) (an (below_step (by exact bel0) hb) (trivial)))))))))))))))
                              clear HO_387000 HO_396000 HO_401001 HO_412000 HO437 HO446 BK360 BK361 BK386 BK395 BK400 BK411 BK457 HB
                              obtain ⟨HO_387000, HO_396000, HO_401001, HO_412000, HO437, HO446, HO449, BK360, BK361, BK386, BK395, BK400, BK411, BK457, HB, -⟩ := n_
                              (try clear hb)
                              (try clear hb2)
                              (try clear hk)
                              (try clear hi)
                              (try clear ho0)
                              refine hK.out _ _ ⟨(blk_cell BK360.out 0).trans rfl, (blk_cell BK360.out 1).trans rfl, (blk_cell BK360.out 2).trans rfl, (blk_cell BK360.out 3).trans rfl, (blk_cell BK360.out 4).trans rfl, (blk_cell BK360.out 5).trans rfl, (blk_cell BK361.out 0).trans rfl, (blk_cell BK361.out 1).trans rfl⟩ (fun hHeld => ?_)
                              clear hK K
                              refine norm_ (a' := ?_) ?_ ?_
                              rotate_left
                              · show Act.put _ (some 114) _ = _
                                simp only [Act.put, List.setIfInBounds_toArray, List.set_cons_zero, List.set_cons_succ, i64_w, i32_w]
                                rfl
                              refine pure_ (i := 5) (N := some 109) (v := ?_) (a' := ?_) #[true, true, true, true, true, true, false, false, false, true, false, false, false] rfl rfl (any_of HT_.out (by kernel_rfl)) (fun _ _ _ h => h) (Or.inl ⟨by rfl, ?_⟩) ?_ ?_
                              rotate_left; · intro w'; go_simp; with_reducible rfl
                              rotate_left; · simp only [Act.put, List.setIfInBounds_toArray, List.set_cons_zero, List.set_cons_succ, i64_w, i32_w]; rfl
                              refine pure_ (i := 6) (N := some 115) (v := ?_) (a' := ?_) #[true, true, true, true, true, true, true, false, false, true, false, false, false] rfl rfl (any_of HT_.out (by kernel_rfl)) (fun _ _ _ h => h) (Or.inl ⟨by rfl, ?_⟩) ?_ ?_
                              rotate_left; · intro w'; go_simp; with_reducible rfl
                              rotate_left; · simp only [Act.put, List.setIfInBounds_toArray, List.set_cons_zero, List.set_cons_succ, i64_w, i32_w]; rfl
                              refine pure_ (i := 7) (N := some 116) (v := ?_) (a' := ?_) #[true, true, true, true, true, true, true, true, false, true, false, false, false] rfl rfl (any_of HT_.out (by kernel_rfl)) (fun _ _ _ h => h) (Or.inl ⟨by rfl, ?_⟩) ?_ ?_
                              rotate_left; · intro w'; go_simp; with_reducible rfl
                              rotate_left; · simp only [Act.put, List.setIfInBounds_toArray, List.set_cons_zero, List.set_cons_succ, i64_w, i32_w]; rfl
                              refine pure_ (i := 8) (N := some 117) (v := ?_) (a' := ?_) #[true, true, true, true, true, true, true, true, true, true, false, false, false] rfl rfl (any_of HT_.out (by kernel_rfl)) (fun _ _ _ h => h) (Or.inl ⟨by rfl, ?_⟩) ?_ ?_
                              rotate_left; · intro w'; go_simp; with_reducible rfl
                              rotate_left; · simp only [Act.put, List.setIfInBounds_toArray, List.set_cons_zero, List.set_cons_succ, i64_w, i32_w]; rfl
                              exact norm_ (by simp only [putAll, Act.put, List.setIfInBounds_toArray, List.set_cons_zero, List.set_cons_succ]) (hCont (.slice Ao151 t435.length co151, .slice Ao152 t444.length co152, v448, gb457) _ ⟨hHeld, (by exact Kd.R_nw (Kd.R_mono HO437.out (fun _ hk => ⟨hk.2, ⟨hk.1.1.1.2, ⟨hk.1.1.2, hk.1.2⟩⟩⟩))), (by exact Kd.R_nw (Kd.R_mono HO446.out (fun _ hk => hk.2))), (by exact Kd.R_nw (Kd.R_mono HO449.out (fun _ hk => ⟨hk.2, ⟨hk.1.1.1.2, ⟨hk.1.1.2, hk.1.2⟩⟩⟩))), (by exact Kd.R_nw (Kd.R_mono HO_387000.out (fun _ hk => ⟨hk.1.2, ⟨hk.2, ⟨hk.1.1.1, hk.1.1.2⟩⟩⟩))), (by exact Kd.R_nw (Kd.R_mono HO_396000.out (fun _ hk => ⟨hk.1.2, ⟨hk.2, ⟨hk.1.1.1, hk.1.1.2⟩⟩⟩))), (by exact Kd.R_nw (Kd.R_mono HO_401001.out (fun _ hk => hk.2))), (by exact Kd.R_nw (Kd.R_mono HO_412000.out (fun _ hk => ⟨hk.1.2, ⟨hk.2, ⟨hk.1.1.1, hk.1.1.2⟩⟩⟩))), (by exact blk_nw BK360.out), (by exact blk_nw BK361.out), (by exact blk_nw BK386.out), (by exact blk_nw BK395.out), (by exact blk_nw BK400.out), (by exact blk_nw BK411.out), (by exact blk_nw BK457.out), GW457.out, GE457.out, NB360_457.out, NB457_360.out, NB361_457.out, NB457_361.out, NB386_457.out, NB457_386.out, NB395_457.out, NB457_395.out, NB400_457.out, NB457_400.out, NB411_457.out, NB457_411.out, (by exact bel0)⟩)
                          rintro ⟨v436, v445, v448, gb457⟩ w154 ⟨hS_, h0_, h1_, h2_, h3_, h4_, h5_, h6_, h7_, h8_, h9_, h10_, h11_, h12_, h13_, h14_, h15_, h16_, h17_, h18_, h19_, h20_, h21_, h22_, h23_, h24_, h25_, h26_, h27_, h28_⟩
                          have n0_ : Aside0 (Kd.R (Kd.int .i64) 3 w154 w.heap.size (fun k_ => some k_ ≠ (v448 : Value).ownBlock ∧ some k_ ≠ (.slice Ao30 t376.length co30 : Value).ownBlock ∧ some k_ ≠ (.slice Ao42 t428.length co42 : Value).ownBlock ∧ some k_ ≠ (.slice Ao60 t401.length co60 : Value).ownBlock) v436 t435) := ⟨h0_⟩
                          have n1_ : Aside0 (Kd.R k82 82 w154 w.heap.size (fun k_ => some k_ ≠ (.slice Ao56 t430.length co56 : Value).ownBlock) v445 t444) := ⟨h1_⟩
                          have n2_ : Aside0 (Kd.R (Kd.int .i64) 3 w154 w.heap.size (fun k_ => some k_ ≠ (v436 : Value).ownBlock ∧ some k_ ≠ (.slice Ao30 t376.length co30 : Value).ownBlock ∧ some k_ ≠ (.slice Ao42 t428.length co42 : Value).ownBlock ∧ some k_ ≠ (.slice Ao60 t401.length co60 : Value).ownBlock) v448 t447) := ⟨h2_⟩
                          have n3_ : Aside0 (Kd.R (Kd.int .i64) 3 w154 w.heap.size (fun k_ => some k_ ≠ (v436 : Value).ownBlock ∧ some k_ ≠ (v448 : Value).ownBlock ∧ some k_ ≠ (.slice Ao42 t428.length co42 : Value).ownBlock ∧ some k_ ≠ (.slice Ao60 t401.length co60 : Value).ownBlock) (.slice Ao30 t376.length co30) t376) := ⟨h3_⟩
                          have n4_ : Aside0 (Kd.R (Kd.int .i64) 3 w154 w.heap.size (fun k_ => some k_ ≠ (v436 : Value).ownBlock ∧ some k_ ≠ (v448 : Value).ownBlock ∧ some k_ ≠ (.slice Ao30 t376.length co30 : Value).ownBlock ∧ some k_ ≠ (.slice Ao60 t401.length co60 : Value).ownBlock) (.slice Ao42 t428.length co42) t428) := ⟨h4_⟩
                          have n5_ : Aside0 (Kd.R k82 82 w154 w.heap.size (fun k_ => some k_ ≠ (v445 : Value).ownBlock) (.slice Ao56 t430.length co56) t430) := ⟨h5_⟩
                          have n6_ : Aside0 (Kd.R (Kd.int .i64) 3 w154 w.heap.size (fun k_ => some k_ ≠ (v436 : Value).ownBlock ∧ some k_ ≠ (v448 : Value).ownBlock ∧ some k_ ≠ (.slice Ao30 t376.length co30 : Value).ownBlock ∧ some k_ ≠ (.slice Ao42 t428.length co42 : Value).ownBlock) (.slice Ao60 t401.length co60) t433) := ⟨h6_⟩
                          have n7_ : Aside0 (w154.heap[gb360]? = some (.cells #[.slice A0_0 l0_0.length c0_0, .int .i64 a0_1, .int .i64 a0_2, .int .i64 a0_3, .int .i64 a0_4, .int .i64 a0_5] 88 (0, 0))) := ⟨h7_⟩
                          have n8_ : Aside0 (w154.heap[gb361]? = some (.cells #[.int .i64 a1_0, .slice A1_1 l1_1.length c1_1] 37 (0, 0))) := ⟨h8_⟩
                          have n9_ : Aside0 (w154.heap[gb386]? = some (.cells #[.slice Ao30 t376.length co30, .int .i64 t379, .int .i64 t380, .int .i64 t381, .int .i64 t382, .int .i64 t383] 90 (0, 0))) := ⟨h9_⟩
                          have n10_ : Aside0 (w154.heap[gb395]? = some (.cells #[.slice Ao42 t428.length co42, .int .i64 t390, .int .i64 t391, .int .i64 t392, .int .i64 t393, .int .i64 t394] 90 (0, 0))) := ⟨h10_⟩
                          have n11_ : Aside0 (w154.heap[gb400]? = some (.cells #[.int .i64 t396, .slice Ao56 t430.length co56] 41 (0, 0))) := ⟨h11_⟩
                          have n12_ : Aside0 (w154.heap[gb411]? = some (.cells #[.slice Ao60 t401.length co60, .int .i64 t404, .int .i64 t405, .int .i64 t406, .int .i64 t407, .int .i64 t408] 90 (0, 0))) := ⟨h12_⟩
                          have n13_ : Aside0 (w154.heap[gb457]? = some (.cells #[.slice none 0 0, .int .i64 0, .int .i64 0, .int .i64 0, .int .i64 0, .int .i64 0] 90 (0, 0))) := ⟨h13_⟩
                          have n14_ : Aside0 (w.heap.size ≤ gb457) := ⟨h14_⟩
                          have n15_ : Aside0 (w.heap.size ≤ gb457) := ⟨h15_⟩
                          have n16_ : Aside0 (gb360 ≠ gb457) := ⟨h16_⟩
                          have n17_ : Aside0 (gb457 ≠ gb360) := ⟨h17_⟩
                          have n18_ : Aside0 (gb361 ≠ gb457) := ⟨h18_⟩
                          have n19_ : Aside0 (gb457 ≠ gb361) := ⟨h19_⟩
                          have n20_ : Aside0 (gb386 ≠ gb457) := ⟨h20_⟩
                          have n21_ : Aside0 (gb457 ≠ gb386) := ⟨h21_⟩
                          have n22_ : Aside0 (gb395 ≠ gb457) := ⟨h22_⟩
                          have n23_ : Aside0 (gb457 ≠ gb395) := ⟨h23_⟩
                          have n24_ : Aside0 (gb400 ≠ gb457) := ⟨h24_⟩
                          have n25_ : Aside0 (gb457 ≠ gb400) := ⟨h25_⟩
                          have n26_ : Aside0 (gb411 ≠ gb457) := ⟨h26_⟩
                          have n27_ : Aside0 (gb457 ≠ gb411) := ⟨h27_⟩
                          have n28_ : Aside0 (Below w.heap.size w w154) := ⟨h28_⟩
                          clear HO_387000
                          clear HO_396000
                          clear HO_401001
                          clear HO_412000
                          clear BK360
                          clear BK361
                          clear BK386
                          clear BK395
                          clear BK400
                          clear BK411
                          clear HB
                          clear h0_ h1_ h2_ h3_ h4_ h5_ h6_ h7_ h8_ h9_ h10_ h11_ h12_ h13_ h14_ h15_ h16_ h17_ h18_ h19_ h20_ h21_ h22_ h23_ h24_ h25_ h26_ h27_ h28_
                          have HO437 := n0_
                          have HO446 := n1_
                          have HO449 := n2_
                          have HO_387000 := n3_
                          have HO_396000 := n4_
                          have HO_401001 := n5_
                          have HO_412000 := n6_
                          have BK360 := n7_
                          have BK361 := n8_
                          have BK386 := n9_
                          have BK395 := n10_
                          have BK400 := n11_
                          have BK411 := n12_
                          have BK457 := n13_
                          have GW457 := n14_
                          have GE457 := n15_
                          have NB360_457 := n16_
                          have NB457_360 := n17_
                          have NB361_457 := n18_
                          have NB457_361 := n19_
                          have NB386_457 := n20_
                          have NB457_386 := n21_
                          have NB395_457 := n22_
                          have NB457_395 := n23_
                          have NB400_457 := n24_
                          have NB457_400 := n25_
                          have NB411_457 := n26_
                          have NB457_411 := n27_
                          have HB := n28_
                          clear n0_ n1_ n2_ n3_ n4_ n5_ n6_ n7_ n8_ n9_ n10_ n11_ n12_ n13_ n14_ n15_ n16_ n17_ n18_ n19_ n20_ n21_ n22_ n23_ n24_ n25_ n26_ n27_ n28_
                          have hHeld : w154.cell? ⟨gb360, 0, none⟩ = some (.slice A0_0 l0_0.length c0_0) ∧ w154.cell? ⟨gb360, 1, none⟩ = some (.int .i64 a0_1) ∧ w154.cell? ⟨gb360, 2, none⟩ = some (.int .i64 a0_2) ∧ w154.cell? ⟨gb360, 3, none⟩ = some (.int .i64 a0_3) ∧ w154.cell? ⟨gb360, 4, none⟩ = some (.int .i64 a0_4) ∧ w154.cell? ⟨gb360, 5, none⟩ = some (.int .i64 a0_5) ∧ w154.cell? ⟨gb361, 0, none⟩ = some (.int .i64 a1_0) ∧ w154.cell? ⟨gb361, 1, none⟩ = some (.slice A1_1 l1_1.length c1_1) := hS_
                          obtain ⟨Ao155, co155, eo155⟩ := Kd.R_slice HO449.out
                          (first | subst eo155 | (injection eo155 with f1_ f2_ f3_; have f4_ := f1_.symm; have f5_ := f3_.symm; clear f1_ f2_ f3_; subst f4_; subst f5_))
                          refine norm_ (a' := ?_) ?_ ?_
                          rotate_left; · simp only [putAll, Act.put, List.setIfInBounds_toArray, List.set_cons_zero, List.set_cons_succ]; rfl
                          refine one_ (i := 10) (N := none) #[true, true, true, true, true, true, true, true, true, true, true, false, false] rfl rfl (one_of HT_.out (by kernel_rfl)) (by decide) (fun K hK => ?_)
                          have hs156 : w154.cell? ⟨gb457, 0, none⟩ = some (.slice none 0 0) := (blk_cell BK457.out 0).trans rfl
                          have hfs156 := blk_frozen BK457.out 0
                          have hns156_0 := NB360_457.out
                          have hns156_1 := NB361_457.out
                          have hns156_2 := NB386_457.out
                          have hns156_3 := NB395_457.out
                          have hns156_4 := NB400_457.out
                          have hns156_5 := NB411_457.out
                          have hms156_0 := NB457_360.out
                          have hms156_1 := NB457_361.out
                          have hms156_2 := NB457_386.out
                          have hms156_3 := NB457_395.out
                          have hms156_4 := NB457_400.out
                          have hms156_5 := NB457_411.out
                          have hs157 : w154.cell? ⟨gb457, 1, none⟩ = some (.int .i64 0) := (blk_cell BK457.out 1).trans rfl
                          have hfs157 := blk_frozen BK457.out 1
                          have hns157_0 := NB360_457.out
                          have hns157_1 := NB361_457.out
                          have hns157_2 := NB386_457.out
                          have hns157_3 := NB395_457.out
                          have hns157_4 := NB400_457.out
                          have hns157_5 := NB411_457.out
                          have hms157_0 := NB457_360.out
                          have hms157_1 := NB457_361.out
                          have hms157_2 := NB457_386.out
                          have hms157_3 := NB457_395.out
                          have hms157_4 := NB457_400.out
                          have hms157_5 := NB457_411.out
                          have hs158 : w154.cell? ⟨gb457, 2, none⟩ = some (.int .i64 0) := (blk_cell BK457.out 2).trans rfl
                          have hfs158 := blk_frozen BK457.out 2
                          have hns158_0 := NB360_457.out
                          have hns158_1 := NB361_457.out
                          have hns158_2 := NB386_457.out
                          have hns158_3 := NB395_457.out
                          have hns158_4 := NB400_457.out
                          have hns158_5 := NB411_457.out
                          have hms158_0 := NB457_360.out
                          have hms158_1 := NB457_361.out
                          have hms158_2 := NB457_386.out
                          have hms158_3 := NB457_395.out
                          have hms158_4 := NB457_400.out
                          have hms158_5 := NB457_411.out
                          have hs159 : w154.cell? ⟨gb457, 3, none⟩ = some (.int .i64 0) := (blk_cell BK457.out 3).trans rfl
                          have hfs159 := blk_frozen BK457.out 3
                          have hns159_0 := NB360_457.out
                          have hns159_1 := NB361_457.out
                          have hns159_2 := NB386_457.out
                          have hns159_3 := NB395_457.out
                          have hns159_4 := NB400_457.out
                          have hns159_5 := NB411_457.out
                          have hms159_0 := NB457_360.out
                          have hms159_1 := NB457_361.out
                          have hms159_2 := NB457_386.out
                          have hms159_3 := NB457_395.out
                          have hms159_4 := NB457_400.out
                          have hms159_5 := NB457_411.out
                          have hs160 : w154.cell? ⟨gb457, 4, none⟩ = some (.int .i64 0) := (blk_cell BK457.out 4).trans rfl
                          have hfs160 := blk_frozen BK457.out 4
                          have hns160_0 := NB360_457.out
                          have hns160_1 := NB361_457.out
                          have hns160_2 := NB386_457.out
                          have hns160_3 := NB395_457.out
                          have hns160_4 := NB400_457.out
                          have hns160_5 := NB411_457.out
                          have hms160_0 := NB457_360.out
                          have hms160_1 := NB457_361.out
                          have hms160_2 := NB457_386.out
                          have hms160_3 := NB457_395.out
                          have hms160_4 := NB457_400.out
                          have hms160_5 := NB457_411.out
                          have hs161 : w154.cell? ⟨gb457, 5, none⟩ = some (.int .i64 0) := (blk_cell BK457.out 5).trans rfl
                          have hfs161 := blk_frozen BK457.out 5
                          have hns161_0 := NB360_457.out
                          have hns161_1 := NB361_457.out
                          have hns161_2 := NB386_457.out
                          have hns161_3 := NB395_457.out
                          have hns161_4 := NB400_457.out
                          have hns161_5 := NB411_457.out
                          have hms161_0 := NB457_360.out
                          have hms161_1 := NB457_361.out
                          have hms161_2 := NB457_386.out
                          have hms161_3 := NB457_395.out
                          have hms161_4 := NB457_400.out
                          have hms161_5 := NB457_411.out
                          refine skip_ (w1 := ?_) (by rfl) rfl ?_ ?_
                          rotate_left
                          · go_simp
                            rfl
                          refine hK.out _ _ ⟨((cell_far (p := ⟨gb457, _, none⟩) NB360_457.out _).trans (((cell_far (p := ⟨gb457, _, none⟩) NB360_457.out _).trans (((cell_far (p := ⟨gb457, _, none⟩) NB360_457.out _).trans (((cell_far (p := ⟨gb457, _, none⟩) NB360_457.out _).trans (((cell_far (p := ⟨gb457, _, none⟩) NB360_457.out _).trans (((cell_far (p := ⟨gb457, _, none⟩) NB360_457.out _).trans (hHeld.1)))))))))))), ((cell_far (p := ⟨gb457, _, none⟩) NB360_457.out _).trans (((cell_far (p := ⟨gb457, _, none⟩) NB360_457.out _).trans (((cell_far (p := ⟨gb457, _, none⟩) NB360_457.out _).trans (((cell_far (p := ⟨gb457, _, none⟩) NB360_457.out _).trans (((cell_far (p := ⟨gb457, _, none⟩) NB360_457.out _).trans (((cell_far (p := ⟨gb457, _, none⟩) NB360_457.out _).trans (hHeld.2.1)))))))))))), ((cell_far (p := ⟨gb457, _, none⟩) NB360_457.out _).trans (((cell_far (p := ⟨gb457, _, none⟩) NB360_457.out _).trans (((cell_far (p := ⟨gb457, _, none⟩) NB360_457.out _).trans (((cell_far (p := ⟨gb457, _, none⟩) NB360_457.out _).trans (((cell_far (p := ⟨gb457, _, none⟩) NB360_457.out _).trans (((cell_far (p := ⟨gb457, _, none⟩) NB360_457.out _).trans (hHeld.2.2.1)))))))))))), ((cell_far (p := ⟨gb457, _, none⟩) NB360_457.out _).trans (((cell_far (p := ⟨gb457, _, none⟩) NB360_457.out _).trans (((cell_far (p := ⟨gb457, _, none⟩) NB360_457.out _).trans (((cell_far (p := ⟨gb457, _, none⟩) NB360_457.out _).trans (((cell_far (p := ⟨gb457, _, none⟩) NB360_457.out _).trans (((cell_far (p := ⟨gb457, _, none⟩) NB360_457.out _).trans (hHeld.2.2.2.1)))))))))))), ((cell_far (p := ⟨gb457, _, none⟩) NB360_457.out _).trans (((cell_far (p := ⟨gb457, _, none⟩) NB360_457.out _).trans (((cell_far (p := ⟨gb457, _, none⟩) NB360_457.out _).trans (((cell_far (p := ⟨gb457, _, none⟩) NB360_457.out _).trans (((cell_far (p := ⟨gb457, _, none⟩) NB360_457.out _).trans (((cell_far (p := ⟨gb457, _, none⟩) NB360_457.out _).trans (hHeld.2.2.2.2.1)))))))))))), ((cell_far (p := ⟨gb457, _, none⟩) NB360_457.out _).trans (((cell_far (p := ⟨gb457, _, none⟩) NB360_457.out _).trans (((cell_far (p := ⟨gb457, _, none⟩) NB360_457.out _).trans (((cell_far (p := ⟨gb457, _, none⟩) NB360_457.out _).trans (((cell_far (p := ⟨gb457, _, none⟩) NB360_457.out _).trans (((cell_far (p := ⟨gb457, _, none⟩) NB360_457.out _).trans (hHeld.2.2.2.2.2.1)))))))))))), ((cell_far (p := ⟨gb457, _, none⟩) NB361_457.out _).trans (((cell_far (p := ⟨gb457, _, none⟩) NB361_457.out _).trans (((cell_far (p := ⟨gb457, _, none⟩) NB361_457.out _).trans (((cell_far (p := ⟨gb457, _, none⟩) NB361_457.out _).trans (((cell_far (p := ⟨gb457, _, none⟩) NB361_457.out _).trans (((cell_far (p := ⟨gb457, _, none⟩) NB361_457.out _).trans (hHeld.2.2.2.2.2.2.1)))))))))))), ((cell_far (p := ⟨gb457, _, none⟩) NB361_457.out _).trans (((cell_far (p := ⟨gb457, _, none⟩) NB361_457.out _).trans (((cell_far (p := ⟨gb457, _, none⟩) NB361_457.out _).trans (((cell_far (p := ⟨gb457, _, none⟩) NB361_457.out _).trans (((cell_far (p := ⟨gb457, _, none⟩) NB361_457.out _).trans (((cell_far (p := ⟨gb457, _, none⟩) NB361_457.out _).trans (hHeld.2.2.2.2.2.2.2))))))))))))⟩ (fun hHeld => ?_)
                          clear hK K
                          refine pure_ (i := 11) (N := some 18) (v := ?_) (a' := ?_) #[true, true, true, true, true, true, true, true, true, true, true, true, false] rfl rfl (any_of HT_.out (by kernel_rfl)) (fun _ _ _ h => h) (Or.inl ⟨by rfl, ?_⟩) ?_ ?_
                          rotate_left; · intro w'; go_simp; with_reducible rfl
                          rotate_left; · simp only [Act.put, List.setIfInBounds_toArray, List.set_cons_zero, List.set_cons_succ, i64_w, i32_w]; rfl
                          refine pure_ (i := 12) (N := some 19) (v := ?_) (a' := ?_) #[true, true, true, true, true, true, true, true, true, true, true, true, true] rfl rfl (any_of HT_.out (by kernel_rfl)) (fun _ _ _ h => h) (Or.inl ⟨by rfl, ?_⟩) ?_ ?_
                          rotate_left; · intro w'; go_simp; with_reducible rfl
                          rotate_left; · simp only [Act.put, List.setIfInBounds_toArray, List.set_cons_zero, List.set_cons_succ, i64_w, i32_w]; rfl
                          refine done_ (done_of HT_.out (by kernel_rfl)) ?_
                          go_upto_region 32 with (fail)
                          go_cut [131] (fun v131 wc => ∃ (kq : Nat) (x131_145 : Bool), v131 = .bool x131_145 ∧ Aside0 (laws_FnExactProbeTick.j2 kq t432 x131_145 t433 t404 t405 t406 t407 t408 = some r) ∧ Aside0 (kq ≤ kj98) ∧ Aside0 (Kd.R (Kd.int .i64) 3 wc w.heap.size (fun k_ => some k_ ≠ ((.slice Ao42 t428.length co42) : Value).ownBlock ∧ some k_ ≠ ((.slice Ao60 t401.length co60) : Value).ownBlock ∧ some k_ ≠ ((.slice Ao155 t447.length co155) : Value).ownBlock) (.slice Ao30 t376.length co30) t376) ∧ Aside0 (Kd.R (Kd.int .i64) 3 wc w.heap.size (fun k_ => some k_ ≠ ((.slice Ao30 t376.length co30) : Value).ownBlock ∧ some k_ ≠ ((.slice Ao60 t401.length co60) : Value).ownBlock ∧ some k_ ≠ ((.slice Ao155 t447.length co155) : Value).ownBlock) (.slice Ao42 t428.length co42) t428) ∧ Aside0 (Kd.R k82 82 wc w.heap.size (fun _ => True) (.slice Ao56 t430.length co56) t430) ∧ Aside0 (Kd.R (Kd.int .i64) 3 wc w.heap.size (fun k_ => some k_ ≠ ((.slice Ao30 t376.length co30) : Value).ownBlock ∧ some k_ ≠ ((.slice Ao42 t428.length co42) : Value).ownBlock ∧ some k_ ≠ ((.slice Ao155 t447.length co155) : Value).ownBlock) (.slice Ao60 t401.length co60) t433) ∧ Aside0 (Kd.R (Kd.int .i64) 3 wc w.heap.size (fun k_ => some k_ ≠ ((.slice Ao30 t376.length co30) : Value).ownBlock ∧ some k_ ≠ ((.slice Ao42 t428.length co42) : Value).ownBlock ∧ some k_ ≠ ((.slice Ao60 t401.length co60) : Value).ownBlock) (.slice Ao155 t447.length co155) t447) ∧ Aside0 (wc.heap[gb360]? = some (.cells #[(.slice A0_0 l0_0.length c0_0), .int .i64 a0_1, .int .i64 a0_2, .int .i64 a0_3, .int .i64 a0_4, .int .i64 a0_5] 88 (0, 0))) ∧ Aside0 (wc.heap[gb361]? = some (.cells #[.int .i64 a1_0, (.slice A1_1 l1_1.length c1_1)] 37 (0, 0))) ∧ Aside0 (wc.heap[gb386]? = some (.cells #[(.slice Ao30 t376.length co30), .int .i64 t379, .int .i64 t380, .int .i64 t381, .int .i64 t382, .int .i64 t383] 90 (0, 0))) ∧ Aside0 (wc.heap[gb395]? = some (.cells #[(.slice Ao42 t428.length co42), .int .i64 t390, .int .i64 t391, .int .i64 t392, .int .i64 t393, .int .i64 t394] 90 (0, 0))) ∧ Aside0 (wc.heap[gb400]? = some (.cells #[.int .i64 t396, (.slice Ao56 t430.length co56)] 41 (0, 0))) ∧ Aside0 (wc.heap[gb411]? = some (.cells #[(.slice Ao60 t401.length co60), .int .i64 t404, .int .i64 t405, .int .i64 t406, .int .i64 t407, .int .i64 t408] 90 (0, 0))) ∧ Aside0 (wc.heap[gb457]? = some (.cells #[(.slice Ao155 t447.length co155), .int .i64 t450, .int .i64 t451, .int .i64 t452, .int .i64 t453, .int .i64 t454] 90 (0, 0))) ∧ Aside0 (Below w.heap.size w wc))
                          case first =>
                            have H := HC146.out
                            clear HC146
                            replace H := Option.bind_eq_some_iff.mp H
                            obtain ⟨t458, A1620, H⟩ := H
                            have A162 := Aside0.mk A1620
                            clear A1620
                            have hnb163 := NB457_360.out
                            have hnc163 := NB360_457.out
                            have hnb164 := NB457_361.out
                            have hnc164 := NB361_457.out
                            have hnb165 := NB457_386.out
                            have hnc165 := NB386_457.out
                            have hnb166 := NB457_395.out
                            have hnc166 := NB395_457.out
                            have hnb167 := NB457_400.out
                            have hnc167 := NB400_457.out
                            have hnb168 := NB457_411.out
                            have hnc168 := NB411_457.out
                            obtain ⟨hcz169_0, hcz169_1, hcz169_2, hcz169_3, hcz169_4, hcz169_5⟩ := blkz6 BK457.out
                            have hfz169_0 := blkf BK457.out
                            have hnb170 := NB386_360.out
                            have hnc170 := NB360_386.out
                            have hnb171 := NB386_361.out
                            have hnc171 := NB361_386.out
                            have hnb172 := NB386_395.out
                            have hnc172 := NB395_386.out
                            have hnb173 := NB386_400.out
                            have hnc173 := NB400_386.out
                            have hnb174 := NB386_411.out
                            have hnc174 := NB411_386.out
                            obtain ⟨hcz175_0, hcz175_1, hcz175_2, hcz175_3, hcz175_4, hcz175_5⟩ := blkz6 BK386.out
                            have hfz175_0 := blkf BK386.out
                            replace H := Aside0.mk H
                            go_wp2_with (first | ((with_reducible refine gate_callee (f := 60) rfl ?_); refine goesL_ (some 120) rfl rfl Try.func60 (by kernel_rfl) rfl #[.agg #[.slice Ao155 t447.length co155, .int .i64 t450, .int .i64 t451, .int .i64 t452, .int .i64 t453, .int .i64 t454], .agg #[.slice Ao30 t376.length co30, .int .i64 t379, .int .i64 t380, .int .i64 t381, .int .i64 t382, .int .i64 t383]] rfl (by (try simp only [List.map_toArray, List.map_cons, List.map_nil]); first | done | rfl | (simp only [List.length_drop, List.length_take]; rfl)) ?_; (with_reducible refine (laws_eqProber.calls kj98 _ _ t447 t450 t451 t452 t453 t454 _ _ t376 t379 t380 t381 t382 t383 t458 _ ?side1 ?side2 ?side3 ?side4 A162.out).mono ?_); (case side1 => refine (Kd.R_reads' (e := 3) (base := w.heap.size) (ok := fun k_ => (some k_ ≠ (v436 : Value).ownBlock ∧ (some k_ ≠ (.slice Ao30 t376.length co30 : Value).ownBlock ∧ (some k_ ≠ (.slice Ao42 t428.length co42 : Value).ownBlock ∧ some k_ ≠ (.slice Ao60 t401.length co60 : Value).ownBlock)))) (n := t447.length) (c := co155) ?_).2.2; exact (by exact (Kd.R_farN HO449.out BK457.out))); (case side2 => exact (Kd.R_reads' HO449.out).2.1); (case side3 => refine (Kd.R_reads' (e := 3) (base := w.heap.size) (ok := fun k_ => (some k_ ≠ (v436 : Value).ownBlock ∧ (some k_ ≠ (.slice Ao155 t447.length co155 : Value).ownBlock ∧ (some k_ ≠ (.slice Ao42 t428.length co42 : Value).ownBlock ∧ some k_ ≠ (.slice Ao60 t401.length co60 : Value).ownBlock)))) (n := t376.length) (c := co30) ?_).2.2; exact (by exact (Kd.R_farN HO_387000.out BK457.out))); (case side4 => exact (Kd.R_reads' HO_387000.out).2.1); rintro e w176 ⟨rfl, hb⟩; refine ⟨_, rfl, ?_⟩; have n_ := an (Kd.R_below (by exact (Kd.R_farN HO_387000.out BK457.out)) hb) (an (Kd.R_below (by exact (Kd.R_farN HO_396000.out BK457.out)) hb) (an (Kd.R_below (by exact (Kd.R_farN HO_401001.out BK457.out)) hb) (an (Kd.R_below (by exact (Kd.R_farN HO_412000.out BK457.out)) hb) (an (Kd.R_below (by exact (Kd.R_farN HO437.out BK457.out)) hb) (an (Kd.R_below (by exact (Kd.R_farN HO446.out BK457.out)) hb) (an (Kd.R_below (by exact (Kd.R_farN HO449.out BK457.out)) hb) (an (blk_below (blk_kb BK360.out NB360_457.out) hb) (an (blk_below (blk_kb BK361.out NB361_457.out) hb) (an (blk_below (blk_kb BK386.out NB386_457.out) hb) (an (blk_below (blk_kb BK395.out NB395_457.out) hb) (an (blk_below (blk_kb BK400.out NB400_457.out) hb) (an (blk_below (blk_kb BK411.out NB411_457.out) hb) (an (blk_below (g := gb457) (o := .cells #[.slice Ao155 t447.length co155, .int .i64 t450, .int .i64 t451, .int .i64 t452, .int .i64 t453, .int .i64 t454] 90 (0, 0)) (by (with_reducible repeat (first | refine blk_drewN ?_ _ | refine blk_drew ?_ | refine blk_alloc ?_ _)); exact blk_fill6 BK457.out) hb) (an (below_step (by exact bel0) hb) (trivial))))))))))))))); clear HO_387000 HO_396000 HO_401001 HO_412000 HO437 HO446 HO449 BK360 BK361 BK386 BK395 BK400 BK411 BK457 HB; obtain ⟨HO_387000, HO_396000, HO_401001, HO_412000, HO437, HO446, HO449, BK360, BK361, BK386, BK395, BK400, BK411, BK457, HB, -⟩ := n_; (try clear hb); (try clear hb2); (try clear hk); (try clear hi); refine Stop.out ?_))
                            refine Stop.mk ?_
                            replace H := H.out
                            by_cases c177 : t458 = true
                            · subst c177
                              rw [if_pos rfl] at H
                              by_cases c178 : t455 = t384
                              · rw [if_pos c178] at H
                                have c178b0 : (t455 == t384) = true := beq_iff_eq.mpr c178
                                have c178b1 : (t455 != t384) = false := bne_eq_false_iff_eq.mpr c178
                                clear c178
                                (first | rw [c178b0] | (simp only [i64_w, i32_w]; rw [c178b0]) | skip)
                                have H' := Aside0.mk H
                                clear H
                                go_wp2
                                go_meet
                                case rel => exact ⟨_, ((t456 != t385)), (by first | rfl | (simp; done) | (simp [*]; done)), H', ⟨by have := HJ20.out; have := HJ98.out; first | omega | exact Nat.le_refl _⟩, ⟨by (try simp only [hl396000_98]); (try simp only [hl401001_98]); exact Kd.R_nw (Kd.R_mono HO_387000.out (fun _ hk => ⟨hk.2.2.1, ⟨hk.2.2.2, hk.2.1⟩⟩))⟩, ⟨by (try simp only [hl396000_98]); (try simp only [hl401001_98]); exact Kd.R_nw (Kd.R_mono HO_396000.out (fun _ hk => ⟨hk.2.2.1, ⟨hk.2.2.2, hk.2.1⟩⟩))⟩, ⟨by (try simp only [hl396000_98]); (try simp only [hl401001_98]); exact Kd.R_nw (Kd.R_mono HO_401001.out (fun _ hk => trivial))⟩, ⟨by (try simp only [hl396000_98]); (try simp only [hl401001_98]); exact Kd.R_nw (Kd.R_mono HO_412000.out (fun _ hk => ⟨hk.2.2.1, ⟨hk.2.2.2, hk.2.1⟩⟩))⟩, ⟨by (try simp only [hl396000_98]); (try simp only [hl401001_98]); exact Kd.R_nw (Kd.R_mono HO449.out (fun _ hk => ⟨hk.2.1, ⟨hk.2.2.1, hk.2.2.2⟩⟩))⟩, ⟨by (try simp only [hl396000_98]); (try simp only [hl401001_98]); exact blk_nw BK360.out⟩, ⟨by (try simp only [hl396000_98]); (try simp only [hl401001_98]); exact blk_nw BK361.out⟩, ⟨by (try simp only [hl396000_98]); (try simp only [hl401001_98]); exact blk_nw BK386.out⟩, ⟨by (try simp only [hl396000_98]); (try simp only [hl401001_98]); exact blk_nw BK395.out⟩, ⟨by (try simp only [hl396000_98]); (try simp only [hl401001_98]); exact blk_nw BK400.out⟩, ⟨by (try simp only [hl396000_98]); (try simp only [hl401001_98]); exact blk_nw BK411.out⟩, ⟨by (try simp only [hl396000_98]); (try simp only [hl401001_98]); exact blk_nw BK457.out⟩, ⟨by exact bel0⟩⟩
                              · rw [if_neg c178] at H
                                have c178b0 : (t455 == t384) = false := beq_eq_false_iff_ne.mpr c178
                                have c178b1 : (t455 != t384) = true := bne_iff_ne.mpr c178
                                (first | rw [c178b0] | (simp only [i64_w, i32_w]; rw [c178b0]) | skip)
                                have H' := Aside0.mk H
                                clear H
                                go_wp2
                                go_meet
                                case rel => exact ⟨_, (true), (by first | rfl | (simp; done) | (simp [*]; done)), H', ⟨by have := HJ20.out; have := HJ98.out; first | omega | exact Nat.le_refl _⟩, ⟨by (try simp only [hl396000_98]); (try simp only [hl401001_98]); exact Kd.R_nw (Kd.R_mono HO_387000.out (fun _ hk => ⟨hk.2.2.1, ⟨hk.2.2.2, hk.2.1⟩⟩))⟩, ⟨by (try simp only [hl396000_98]); (try simp only [hl401001_98]); exact Kd.R_nw (Kd.R_mono HO_396000.out (fun _ hk => ⟨hk.2.2.1, ⟨hk.2.2.2, hk.2.1⟩⟩))⟩, ⟨by (try simp only [hl396000_98]); (try simp only [hl401001_98]); exact Kd.R_nw (Kd.R_mono HO_401001.out (fun _ hk => trivial))⟩, ⟨by (try simp only [hl396000_98]); (try simp only [hl401001_98]); exact Kd.R_nw (Kd.R_mono HO_412000.out (fun _ hk => ⟨hk.2.2.1, ⟨hk.2.2.2, hk.2.1⟩⟩))⟩, ⟨by (try simp only [hl396000_98]); (try simp only [hl401001_98]); exact Kd.R_nw (Kd.R_mono HO449.out (fun _ hk => ⟨hk.2.1, ⟨hk.2.2.1, hk.2.2.2⟩⟩))⟩, ⟨by (try simp only [hl396000_98]); (try simp only [hl401001_98]); exact blk_nw BK360.out⟩, ⟨by (try simp only [hl396000_98]); (try simp only [hl401001_98]); exact blk_nw BK361.out⟩, ⟨by (try simp only [hl396000_98]); (try simp only [hl401001_98]); exact blk_nw BK386.out⟩, ⟨by (try simp only [hl396000_98]); (try simp only [hl401001_98]); exact blk_nw BK395.out⟩, ⟨by (try simp only [hl396000_98]); (try simp only [hl401001_98]); exact blk_nw BK400.out⟩, ⟨by (try simp only [hl396000_98]); (try simp only [hl401001_98]); exact blk_nw BK411.out⟩, ⟨by (try simp only [hl396000_98]); (try simp only [hl401001_98]); exact blk_nw BK457.out⟩, ⟨by exact bel0⟩⟩
                            · replace c177 := Bool.eq_false_iff.mpr c177
                              subst c177
                              rw [if_neg (show ¬ (false = true) by decide)] at H
                              have H' := Aside0.mk H
                              clear H
                              go_wp2
                              go_meet
                              case rel => exact ⟨_, (true), (by first | rfl | (simp; done) | (simp [*]; done)), H', ⟨by have := HJ20.out; have := HJ98.out; first | omega | exact Nat.le_refl _⟩, ⟨by (try simp only [hl396000_98]); (try simp only [hl401001_98]); exact Kd.R_nw (Kd.R_mono HO_387000.out (fun _ hk => ⟨hk.2.2.1, ⟨hk.2.2.2, hk.2.1⟩⟩))⟩, ⟨by (try simp only [hl396000_98]); (try simp only [hl401001_98]); exact Kd.R_nw (Kd.R_mono HO_396000.out (fun _ hk => ⟨hk.2.2.1, ⟨hk.2.2.2, hk.2.1⟩⟩))⟩, ⟨by (try simp only [hl396000_98]); (try simp only [hl401001_98]); exact Kd.R_nw (Kd.R_mono HO_401001.out (fun _ hk => trivial))⟩, ⟨by (try simp only [hl396000_98]); (try simp only [hl401001_98]); exact Kd.R_nw (Kd.R_mono HO_412000.out (fun _ hk => ⟨hk.2.2.1, ⟨hk.2.2.2, hk.2.1⟩⟩))⟩, ⟨by (try simp only [hl396000_98]); (try simp only [hl401001_98]); exact Kd.R_nw (Kd.R_mono HO449.out (fun _ hk => ⟨hk.2.1, ⟨hk.2.2.1, hk.2.2.2⟩⟩))⟩, ⟨by (try simp only [hl396000_98]); (try simp only [hl401001_98]); exact blk_nw BK360.out⟩, ⟨by (try simp only [hl396000_98]); (try simp only [hl401001_98]); exact blk_nw BK361.out⟩, ⟨by (try simp only [hl396000_98]); (try simp only [hl401001_98]); exact blk_nw BK386.out⟩, ⟨by (try simp only [hl396000_98]); (try simp only [hl401001_98]); exact blk_nw BK395.out⟩, ⟨by (try simp only [hl396000_98]); (try simp only [hl401001_98]); exact blk_nw BK400.out⟩, ⟨by (try simp only [hl396000_98]); (try simp only [hl401001_98]); exact blk_nw BK411.out⟩, ⟨by (try simp only [hl396000_98]); (try simp only [hl401001_98]); exact blk_nw BK457.out⟩, ⟨by exact bel0⟩⟩
                          case rest =>
                            clear HC146
                            try clear c1
                            try clear c2
                            try clear p2
                            try clear c5
                            try clear c6
                            try clear c16
                            try clear c17
                            try clear c25
                            try clear c58
                            try clear c60
                            try clear c66
                            try clear c163
                            try clear c164
                            try clear c165
                            try clear c166
                            try clear c167
                            try clear c168
                            try clear c170
                            try clear c171
                            try clear c172
                            try clear c173
                            try clear c174
                            try clear c177
                            try clear c178
                            try clear c178b0
                            try clear c178b1
                            try clear hcz169_0
                            try clear hcz169_1
                            try clear hcz169_2
                            try clear hcz169_3
                            try clear hcz169_4
                            try clear hcz169_5
                            try clear hcz175_0
                            try clear hcz175_1
                            try clear hcz175_2
                            try clear hcz175_3
                            try clear hcz175_4
                            try clear hcz175_5
                            try clear hfz169_0
                            try clear hfz169_1
                            try clear hfz169_2
                            try clear hfz169_3
                            try clear hfz169_4
                            try clear hfz169_5
                            try clear hfz175_0
                            try clear hfz175_1
                            try clear hfz175_2
                            try clear hfz175_3
                            try clear hfz175_4
                            try clear hfz175_5
                            obtain ⟨kq, x131_145, rfl, HA, HJ145, HO_387000, HO_396000, HO_401001, HO_412000, HO_458000, BK360, BK361, BK386, BK395, BK400, BK411, BK457, HB⟩ := hcut
                            have hl412000_145 := (Kd.R_reads' HO_412000.out).1
                            rw [hl412000_145] at HO_412000
                            (try simp only [hl412000_145])
                            (try simp only [hl412000_145] at BK360)
                            (try simp only [hl412000_145] at BK361)
                            (try simp only [hl412000_145] at BK386)
                            (try simp only [hl412000_145] at BK395)
                            (try simp only [hl412000_145] at BK400)
                            (try simp only [hl412000_145] at BK411)
                            (try simp only [hl412000_145] at BK457)
                            (try simp only [hl412000_145] at HO_387000)
                            (try simp only [hl412000_145] at HO_396000)
                            (try simp only [hl412000_145] at HO_401001)
                            (try simp only [hl412000_145] at HO_458000)
                            cases kq with
                            | zero => exact absurd HA.out (by simp [laws_FnExactProbeTick.j2])
                            | succ kj145 =>
                              have H := HA.out
                              clear HA
                              simp only [laws_FnExactProbeTick.j2] at H
                              by_cases c179 : x131_145 = true
                              · subst c179
                                rw [if_pos rfl] at H
                                obtain rfl := Option.some.inj H
                                go_wp2
                                go_ret
                                exact ⟨by first | rfl | (simp [errW_none, errW_some] <;> rfl) | (simp [*, errW_none, errW_some] <;> rfl), by exact bel0⟩
                              · replace c179 := Bool.eq_false_iff.mpr c179
                                subst c179
                                rw [if_neg (show ¬ (false = true) by decide)] at H
                                replace H := Option.bind_eq_some_iff.mp H
                                obtain ⟨t459, A1800, H⟩ := H
                                have A180 := Aside0.mk A1800
                                clear A1800
                                have hnb181 := NB411_360.out
                                have hnc181 := NB360_411.out
                                have hnb182 := NB411_361.out
                                have hnc182 := NB361_411.out
                                have hnb183 := NB411_386.out
                                have hnc183 := NB386_411.out
                                have hnb184 := NB411_395.out
                                have hnc184 := NB395_411.out
                                have hnb185 := NB411_400.out
                                have hnc185 := NB400_411.out
                                have hnb186 := NB411_457.out
                                have hnc186 := NB457_411.out
                                obtain ⟨hcz187_0, hcz187_1, hcz187_2, hcz187_3, hcz187_4, hcz187_5⟩ := blkz6 BK411.out
                                have hfz187_0 := blkf BK411.out
                                replace H := Aside0.mk H
                                go_wp2_with (first | ((with_reducible refine gate_callee (f := 62) rfl ?_); refine goesL_ (some 134) rfl rfl Try.func62 (by kernel_rfl) rfl #[.agg #[.slice Ao60 t433.length co60, .int .i64 t404, .int .i64 t405, .int .i64 t406, .int .i64 t407, .int .i64 t408], .int .i64 1] rfl (by (try simp only [List.map_toArray, List.map_cons, List.map_nil]); first | done | rfl | (simp only [List.length_drop, List.length_take]; rfl)) ?_; (with_reducible refine (laws_heldProber.calls kj145 _ _ t433 t404 t405 t406 t407 t408 1 t459 _ ?side1 ?side2 A180.out).mono ?_); (case side1 => repeat (first | exact (Kd.R_reads' HO_412000.out).2.2 | (with_reducible refine Kd.C_alloc ?_ _) | (with_reducible refine Kd.C_drewN ?_ _) | (with_reducible refine Kd.C_drew ?_))); (case side2 => exact (Kd.R_reads' HO_412000.out).2.1); rintro e w188 ⟨rfl, hb⟩; refine ⟨_, rfl, ?_⟩; have n_ := an (Kd.R_below (by exact Kd.R_nw HO_387000.out) hb) (an (Kd.R_below (by exact Kd.R_nw HO_396000.out) hb) (an (Kd.R_below (by exact Kd.R_nw HO_401001.out) hb) (an (Kd.R_below (by exact Kd.R_nw HO_412000.out) hb) (an (Kd.R_below (by exact Kd.R_nw HO_458000.out) hb) (an (blk_below (blk_nw BK360.out) hb) (an (blk_below (blk_nw BK361.out) hb) (an (blk_below (blk_nw BK386.out) hb) (an (blk_below (blk_nw BK395.out) hb) (an (blk_below (blk_nw BK400.out) hb) (an (blk_below (blk_nw BK411.out) hb) (an (blk_below (blk_nw BK457.out) hb) (an (below_step (by exact bel0) hb) (trivial))))))))))))); clear HO_387000 HO_396000 HO_401001 HO_412000 HO_458000 BK360 BK361 BK386 BK395 BK400 BK411 BK457 HB; obtain ⟨HO_387000, HO_396000, HO_401001, HO_412000, HO_458000, BK360, BK361, BK386, BK395, BK400, BK411, BK457, HB, -⟩ := n_; (try clear hb); (try clear hb2); (try clear hk); (try clear hi); refine Stop.out ?_))
                                refine Stop.mk ?_
                                replace H := H.out
                                by_cases c189 : t459 < 0
                                · rw [if_pos c189] at H
                                  have c189b0 : decide (t459 < 0) = true := decide_eq_true c189
                                  clear c189
                                  (try simp only [c189b0])
                                  obtain rfl := Option.some.inj H
                                  go_wp2
                                  go_ret
                                  exact ⟨by first | rfl | (simp [errW_none, errW_some] <;> rfl) | (simp [*, errW_none, errW_some] <;> rfl), by exact bel0⟩
                                · rw [if_neg c189] at H
                                  have c189b0 : decide (t459 < 0) = false := decide_eq_false c189
                                  clear c189
                                  (try simp only [c189b0])
                                  by_cases c190 : t459 = t432
                                  · rw [if_pos c190] at H
                                    have c190b0 : (t459 == t432) = true := beq_iff_eq.mpr c190
                                    have c190b1 : (t459 != t432) = false := bne_eq_false_iff_eq.mpr c190
                                    clear c190
                                    obtain rfl := Option.some.inj H
                                    go_wp2
                                    go_ret
                                    exact ⟨by first | rfl | (simp [errW_none, errW_some] <;> rfl) | (simp [*, errW_none, errW_some] <;> rfl), by exact bel0⟩
                                  · rw [if_neg c190] at H
                                    have c190b0 : (t459 == t432) = false := beq_eq_false_iff_ne.mpr c190
                                    have c190b1 : (t459 != t432) = true := bne_iff_ne.mpr c190
                                    obtain rfl := Option.some.inj H
                                    go_wp2
                                    go_ret
                                    exact ⟨by first | rfl | (simp [errW_none, errW_some] <;> rfl) | (simp [*, errW_none, errW_some] <;> rfl), by exact bel0⟩
                        · rw [if_neg c142] at H
                          have c142b0 : (t434 == t432) = false := beq_eq_false_iff_ne.mpr c142
                          have c142b1 : (t434 != t432) = true := bne_iff_ne.mpr c142
                          obtain rfl := Option.some.inj H
                          go_wp2
                          go_ret
                          exact ⟨by first | rfl | (simp [errW_none, errW_some] <;> rfl) | (simp [*, errW_none, errW_some] <;> rfl), by exact bel0⟩
              · replace c96 := Bool.eq_false_iff.mpr c96
                subst c96
                rw [if_neg (show ¬ (false = true) by decide)] at H
                obtain rfl := Option.some.inj H
                go_wp2
                go_ret
                exact ⟨by first | rfl | (simp [errW_none, errW_some] <;> rfl) | (simp [*, errW_none, errW_some] <;> rfl), by exact bel0⟩
            · replace c89 := Bool.eq_false_iff.mpr c89
              subst c89
              rw [if_neg (show ¬ (false = true) by decide)] at H
              obtain rfl := Option.some.inj H
              go_wp2
              go_ret
              exact ⟨by first | rfl | (simp [errW_none, errW_some] <;> rfl) | (simp [*, errW_none, errW_some] <;> rfl), by exact bel0⟩

end Go.Proofs.Ytigoajblljolcaa.XFnExactProbeTick
