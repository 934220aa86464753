-- Written by this session's own program (xprint.py) over the kit's print.
import Derived.Test.YtigoajblljolcaaXFnExactNextProbex0
import Derived.Test.YtigoajblljolcaaXFnExactNextProbex1
import Derived.Test.YtigoajblljolcaaXFnExactNextProbex2
import Derived.Test.YtigoajblljolcaaXFnExactNextProbex3
import Derived.Test.YtigoajblljolcaaXFnExactNextProbex7
import Derived.Test.YtigoajblljolcaaXFnExactNextProbex11
namespace Go.Proofs.Ytigoajblljolcaa.XFnExactNextProbe
open Go.RowKit Go.Proofs.YtigoajblljolcaaW.PrintWords Go.Proofs.YtigoajblljolcaaW.PrintLast Go.Proofs.YtigoajblljolcaaW.PrintMore
attribute [local go_sem] max2_int min2_int max_two min_two max_three min_three max_four min_four   -- for this text's walks alone
set_option linter.unusedVariables false
set_option linter.unusedSimpArgs false

/-! ### laws_FnExactNextProbe: function 13 -/
mutual
def laws_FnExactNextProbe.j0 : Nat → Int → Int → Bool → List Int → Int → Int → Int → Int → Int → Int → List (S80) → List Int → Int → Int → Int → Int → Int → List Int → Int → Int → Int → Int → Int → Int → List (S82) → List Int → Int → Int → Int → Int → Int → Option (Bool)
  | 0, _, _, _, _, _, _, _, _, _, _, _, _, _, _, _, _, _, _, _, _, _, _, _, _, _, _, _, _, _, _, _ => none
  | k + 1, x7, x11, x53, x331000, x331001, x331002, x331003, x331004, x331005, x332000, x332001, x356000, x356001, x356002, x356003, x356004, x356005, x365000, x365001, x365002, x365003, x365004, x365005, x370000, x370001, x380000, x380001, x380002, x380003, x380004, x380005 => if x53 = true then (some false) else ((laws_toProber.f k x331000 x331001 x331002 x331003 x331004 x331005).bind fun bt381 => ((laws_eqProber.f k x365000 x365001 x365002 x365003 x365004 x365005 bt381.1 bt381.2.1 bt381.2.2.1 bt381.2.2.2.1 bt381.2.2.2.2.1 bt381.2.2.2.2.2).bind fun t389 => (if t389 = true then ((laws_toTable.f k x332000 x332001).bind fun bt390 => ((laws_eqTable.f k x370000 x370001 bt390.1 bt390.2).bind fun t394 => (if t394 = true then ((laws_markProber.f k x365000 x365001 x365002 x365003 x365004 x365005 1).bind fun bt395 => ((laws_markTable.f k x370000 x370001 bt395.1).bind fun bt397 => (if bt397.1 < 0 then (laws_FnExactNextProbe.j1 k x7 true x331000 x331001 x331002 x331003 x331004 x331005 x332000 x332001 x356000 x356001 x356002 x356003 x356004 x356005 x380000 x380001 x380002 x380003 x380004 x380005) else ((laws_eqProber.f k x380000 x380001 x380002 x380003 x380004 x380005 x356000 x356001 x356002 x356003 x356004 x356005).bind fun t399 => (if t399 = true then (laws_FnExactNextProbe.j1 k x7 (x11 != x7) x331000 x331001 x331002 x331003 x331004 x331005 x332000 x332001 x356000 x356001 x356002 x356003 x356004 x356005 x380000 x380001 x380002 x380003 x380004 x380005) else (laws_FnExactNextProbe.j1 k x7 true x331000 x331001 x331002 x331003 x331004 x331005 x332000 x332001 x356000 x356001 x356002 x356003 x356004 x356005 x380000 x380001 x380002 x380003 x380004 x380005)))))) else (some false)))) else (some false))))
def laws_FnExactNextProbe.j1 : Nat → Int → Bool → List Int → Int → Int → Int → Int → Int → Int → List (S80) → List Int → Int → Int → Int → Int → Int → List Int → Int → Int → Int → Int → Int → Option (Bool)
  | 0, _, _, _, _, _, _, _, _, _, _, _, _, _, _, _, _, _, _, _, _, _, _ => none
  | k + 1, x7, x82, x331000, x331001, x331002, x331003, x331004, x331005, x332000, x332001, x356000, x356001, x356002, x356003, x356004, x356005, x380000, x380001, x380002, x380003, x380004, x380005 => if x82 = true then (some false) else ((laws_markProber.f k x380000 x380001 x380002 x380003 x380004 x380005 1).bind fun bt400 => ((laws_heldProber.f k bt400.2 x380001 x380002 x380003 x380004 x380005 1).bind fun t402 => (if t402 < 0 then (some false) else (if t402 = bt400.1 then ((laws_toProber.f k x331000 x331001 x331002 x331003 x331004 x331005).bind fun bt403 => ((laws_toTable.f k x332000 x332001).bind fun bt411 => ((impl_NextProbe.f k bt403.1 bt403.2.1 bt403.2.2.1 bt403.2.2.2.1 bt403.2.2.2.2.1 bt403.2.2.2.2.2 bt411.1 bt411.2).bind fun bt415 => ((laws_eqProber.f k bt415.1 bt415.2.1 bt415.2.2.1 bt415.2.2.2.1 bt415.2.2.2.2.1 bt415.2.2.2.2.2.1 x356000 x356001 x356002 x356003 x356004 x356005).bind fun t425 => (if t425 = true then (laws_FnExactNextProbe.j2 k bt400.1 (bt415.2.2.2.2.2.2 != x7) bt400.2 x380001 x380002 x380003 x380004 x380005) else (laws_FnExactNextProbe.j2 k bt400.1 true bt400.2 x380001 x380002 x380003 x380004 x380005)))))) else (some false)))))
def laws_FnExactNextProbe.j2 : Nat → Int → Bool → List Int → Int → Int → Int → Int → Int → Option (Bool)
  | 0, _, _, _, _, _, _, _, _ => none
  | k + 1, x13, x110, x380000, x380001, x380002, x380003, x380004, x380005 => if x110 = true then (some false) else ((laws_heldProber.f k x380000 x380001 x380002 x380003 x380004 x380005 1).bind fun t426 => (if t426 < 0 then (some false) else (if t426 = x13 then (some true) else (some false))))
end
def laws_FnExactNextProbe.f (k : Nat) (l0_0 : List Int) (a0_1 : Int) (a0_2 : Int) (a0_3 : Int) (a0_4 : Int) (a0_5 : Int) (a1_0 : Int) (l1_1 : List (S80)) : Option (Bool) := (laws_szProber.f l0_0 a0_1 a0_2 a0_3 a0_4 a0_5 1048576).bind fun t332 => (if t332 < 0 then (some true) else ((laws_szTable.f a1_0 l1_1 t332).bind fun t333 => (if t333 < 0 then (some true) else ((laws_toProber.f k l0_0 a0_1 a0_2 a0_3 a0_4 a0_5).bind fun bt334 => ((laws_toTable.f k a1_0 l1_1).bind fun bt342 => ((spec_NextProbe.f k bt334.1 bt334.2.1 bt334.2.2.1 bt334.2.2.2.1 bt334.2.2.2.2.1 bt334.2.2.2.2.2 bt342.1 bt342.2).bind fun bt346 => ((laws_toProber.f k l0_0 a0_1 a0_2 a0_3 a0_4 a0_5).bind fun bt356 => ((laws_toTable.f k a1_0 l1_1).bind fun bt365 => ((impl_NextProbe.f k bt356.1 bt356.2.1 bt356.2.2.1 bt356.2.2.2.1 bt356.2.2.2.2.1 bt356.2.2.2.2.2 bt365.1 bt365.2).bind fun bt370 => ((laws_eqProber.f k bt370.1 bt370.2.1 bt370.2.2.1 bt370.2.2.2.1 bt370.2.2.2.2.1 bt370.2.2.2.2.2.1 bt346.1 bt346.2.1 bt346.2.2.1 bt346.2.2.2.1 bt346.2.2.2.2.1 bt346.2.2.2.2.2.1).bind fun t380 => (if t380 = true then (laws_FnExactNextProbe.j0 k bt346.2.2.2.2.2.2 bt370.2.2.2.2.2.2 (bt370.2.2.2.2.2.2 != bt346.2.2.2.2.2.2) l0_0 a0_1 a0_2 a0_3 a0_4 a0_5 a1_0 l1_1 bt346.1 bt346.2.1 bt346.2.2.1 bt346.2.2.2.1 bt346.2.2.2.2.1 bt346.2.2.2.2.2.1 bt356.1 bt356.2.1 bt356.2.2.1 bt356.2.2.2.1 bt356.2.2.2.2.1 bt356.2.2.2.2.2 bt365.1 bt365.2 bt370.1 bt370.2.1 bt370.2.2.1 bt370.2.2.2.1 bt370.2.2.2.2.1 bt370.2.2.2.2.2.1) else (laws_FnExactNextProbe.j0 k bt346.2.2.2.2.2.2 bt370.2.2.2.2.2.2 true l0_0 a0_1 a0_2 a0_3 a0_4 a0_5 a1_0 l1_1 bt346.1 bt346.2.1 bt346.2.2.1 bt346.2.2.2.1 bt346.2.2.2.2.1 bt346.2.2.2.2.2.1 bt356.1 bt356.2.1 bt356.2.2.1 bt356.2.2.2.1 bt356.2.2.2.2.1 bt356.2.2.2.2.2 bt365.1 bt365.2 bt370.1 bt370.2.1 bt370.2.2.1 bt370.2.2.2.1 bt370.2.2.2.2.1 bt370.2.2.2.2.2.1))))))))))))
theorem laws_FnExactNextProbe.mono_l : ∀ k, (∀ y0 y1 y2 y3 y4 y5 y6 y7 y8 y9 y10 y11 y12 y13 y14 y15 y16 y17 y18 y19 y20 y21 y22 y23 y24 y25 y26 y27 y28 y29 y30, LeO (laws_FnExactNextProbe.j0 k y0 y1 y2 y3 y4 y5 y6 y7 y8 y9 y10 y11 y12 y13 y14 y15 y16 y17 y18 y19 y20 y21 y22 y23 y24 y25 y26 y27 y28 y29 y30) (laws_FnExactNextProbe.j0 (k + 1) y0 y1 y2 y3 y4 y5 y6 y7 y8 y9 y10 y11 y12 y13 y14 y15 y16 y17 y18 y19 y20 y21 y22 y23 y24 y25 y26 y27 y28 y29 y30)) ∧ (∀ y0 y1 y2 y3 y4 y5 y6 y7 y8 y9 y10 y11 y12 y13 y14 y15 y16 y17 y18 y19 y20 y21, LeO (laws_FnExactNextProbe.j1 k y0 y1 y2 y3 y4 y5 y6 y7 y8 y9 y10 y11 y12 y13 y14 y15 y16 y17 y18 y19 y20 y21) (laws_FnExactNextProbe.j1 (k + 1) y0 y1 y2 y3 y4 y5 y6 y7 y8 y9 y10 y11 y12 y13 y14 y15 y16 y17 y18 y19 y20 y21)) ∧ (∀ y0 y1 y2 y3 y4 y5 y6 y7, LeO (laws_FnExactNextProbe.j2 k y0 y1 y2 y3 y4 y5 y6 y7) (laws_FnExactNextProbe.j2 (k + 1) y0 y1 y2 y3 y4 y5 y6 y7))
  | 0 => ⟨fun _ _ _ _ _ _ _ _ _ _ _ _ _ _ _ _ _ _ _ _ _ _ _ _ _ _ _ _ _ _ _ r h => by simp [laws_FnExactNextProbe.j0] at h, fun _ _ _ _ _ _ _ _ _ _ _ _ _ _ _ _ _ _ _ _ _ _ r h => by simp [laws_FnExactNextProbe.j1] at h, fun _ _ _ _ _ _ _ _ r h => by simp [laws_FnExactNextProbe.j2] at h⟩
  | k + 1 => by
    obtain ⟨ih0, ih1, ih2⟩ := laws_FnExactNextProbe.mono_l k
    refine ⟨?_, ?_, ?_⟩
    · intro y0 y1 y2 y3 y4 y5 y6 y7 y8 y9 y10 y11 y12 y13 y14 y15 y16 y17 y18 y19 y20 y21 y22 y23 y24 y25 y26 y27 y28 y29 y30
      unfold laws_FnExactNextProbe.j0
      repeat' first
      | (with_reducible exact ih0 _ _ _ _ _ _ _ _ _ _ _ _ _ _ _ _ _ _ _ _ _ _ _ _ _ _ _ _ _ _ _)
      | (with_reducible exact ih1 _ _ _ _ _ _ _ _ _ _ _ _ _ _ _ _ _ _ _ _ _ _)
      | (with_reducible exact ih2 _ _ _ _ _ _ _ _)
      | (with_reducible exact impl_NextProbe.mono _ _ _ _ _ _ _ _ _)
      | (with_reducible exact laws_eqProber.mono _ _ _ _ _ _ _ _ _ _ _ _ _)
      | (with_reducible exact laws_eqTable.mono _ _ _ _ _)
      | (with_reducible exact laws_heldProber.mono _ _ _ _ _ _ _ _)
      | (with_reducible exact laws_markProber.mono _ _ _ _ _ _ _ _)
      | (with_reducible exact laws_markTable.mono _ _ _ _)
      | (with_reducible exact laws_toProber.mono _ _ _ _ _ _ _)
      | (with_reducible exact laws_toTable.mono _ _ _)
      | (with_reducible exact spec_NextProbe.mono _ _ _ _ _ _ _ _ _)
      | (with_reducible exact LeO.refl _)
      | (with_reducible exact LeO.none _)
      | (with_reducible refine LeO.ite ?_ ?_)
      | (with_reducible refine LeO.bind ?_ (fun _ => ?_))
      | exact ih0 _ _ _ _ _ _ _ _ _ _ _ _ _ _ _ _ _ _ _ _ _ _ _ _ _ _ _ _ _ _ _
      | exact ih1 _ _ _ _ _ _ _ _ _ _ _ _ _ _ _ _ _ _ _ _ _ _
      | exact ih2 _ _ _ _ _ _ _ _
      | exact impl_NextProbe.mono _ _ _ _ _ _ _ _ _
      | exact laws_eqProber.mono _ _ _ _ _ _ _ _ _ _ _ _ _
      | exact laws_eqTable.mono _ _ _ _ _
      | exact laws_heldProber.mono _ _ _ _ _ _ _ _
      | exact laws_markProber.mono _ _ _ _ _ _ _ _
      | exact laws_markTable.mono _ _ _ _
      | exact laws_toProber.mono _ _ _ _ _ _ _
      | exact laws_toTable.mono _ _ _
      | exact spec_NextProbe.mono _ _ _ _ _ _ _ _ _
      | exact LeO.none _
      | refine LeO.ite ?_ ?_
      | refine LeO.bind ?_ (fun _ => ?_)
    · intro y0 y1 y2 y3 y4 y5 y6 y7 y8 y9 y10 y11 y12 y13 y14 y15 y16 y17 y18 y19 y20 y21
      unfold laws_FnExactNextProbe.j1
      repeat' first
      | (with_reducible exact ih0 _ _ _ _ _ _ _ _ _ _ _ _ _ _ _ _ _ _ _ _ _ _ _ _ _ _ _ _ _ _ _)
      | (with_reducible exact ih1 _ _ _ _ _ _ _ _ _ _ _ _ _ _ _ _ _ _ _ _ _ _)
      | (with_reducible exact ih2 _ _ _ _ _ _ _ _)
      | (with_reducible exact impl_NextProbe.mono _ _ _ _ _ _ _ _ _)
      | (with_reducible exact laws_eqProber.mono _ _ _ _ _ _ _ _ _ _ _ _ _)
      | (with_reducible exact laws_eqTable.mono _ _ _ _ _)
      | (with_reducible exact laws_heldProber.mono _ _ _ _ _ _ _ _)
      | (with_reducible exact laws_markProber.mono _ _ _ _ _ _ _ _)
      | (with_reducible exact laws_markTable.mono _ _ _ _)
      | (with_reducible exact laws_toProber.mono _ _ _ _ _ _ _)
      | (with_reducible exact laws_toTable.mono _ _ _)
      | (with_reducible exact spec_NextProbe.mono _ _ _ _ _ _ _ _ _)
      | (with_reducible exact LeO.refl _)
      | (with_reducible exact LeO.none _)
      | (with_reducible refine LeO.ite ?_ ?_)
      | (with_reducible refine LeO.bind ?_ (fun _ => ?_))
      | exact ih0 _ _ _ _ _ _ _ _ _ _ _ _ _ _ _ _ _ _ _ _ _ _ _ _ _ _ _ _ _ _ _
      | exact ih1 _ _ _ _ _ _ _ _ _ _ _ _ _ _ _ _ _ _ _ _ _ _
      | exact ih2 _ _ _ _ _ _ _ _
      | exact impl_NextProbe.mono _ _ _ _ _ _ _ _ _
      | exact laws_eqProber.mono _ _ _ _ _ _ _ _ _ _ _ _ _
      | exact laws_eqTable.mono _ _ _ _ _
      | exact laws_heldProber.mono _ _ _ _ _ _ _ _
      | exact laws_markProber.mono _ _ _ _ _ _ _ _
      | exact laws_markTable.mono _ _ _ _
      | exact laws_toProber.mono _ _ _ _ _ _ _
      | exact laws_toTable.mono _ _ _
      | exact spec_NextProbe.mono _ _ _ _ _ _ _ _ _
      | exact LeO.none _
      | refine LeO.ite ?_ ?_
      | refine LeO.bind ?_ (fun _ => ?_)
    · intro y0 y1 y2 y3 y4 y5 y6 y7
      unfold laws_FnExactNextProbe.j2
      repeat' first
      | (with_reducible exact ih0 _ _ _ _ _ _ _ _ _ _ _ _ _ _ _ _ _ _ _ _ _ _ _ _ _ _ _ _ _ _ _)
      | (with_reducible exact ih1 _ _ _ _ _ _ _ _ _ _ _ _ _ _ _ _ _ _ _ _ _ _)
      | (with_reducible exact ih2 _ _ _ _ _ _ _ _)
      | (with_reducible exact impl_NextProbe.mono _ _ _ _ _ _ _ _ _)
      | (with_reducible exact laws_eqProber.mono _ _ _ _ _ _ _ _ _ _ _ _ _)
      | (with_reducible exact laws_eqTable.mono _ _ _ _ _)
      | (with_reducible exact laws_heldProber.mono _ _ _ _ _ _ _ _)
      | (with_reducible exact laws_markProber.mono _ _ _ _ _ _ _ _)
      | (with_reducible exact laws_markTable.mono _ _ _ _)
      | (with_reducible exact laws_toProber.mono _ _ _ _ _ _ _)
      | (with_reducible exact laws_toTable.mono _ _ _)
      | (with_reducible exact spec_NextProbe.mono _ _ _ _ _ _ _ _ _)
      | (with_reducible exact LeO.refl _)
      | (with_reducible exact LeO.none _)
      | (with_reducible refine LeO.ite ?_ ?_)
      | (with_reducible refine LeO.bind ?_ (fun _ => ?_))
      | exact ih0 _ _ _ _ _ _ _ _ _ _ _ _ _ _ _ _ _ _ _ _ _ _ _ _ _ _ _ _ _ _ _
      | exact ih1 _ _ _ _ _ _ _ _ _ _ _ _ _ _ _ _ _ _ _ _ _ _
      | exact ih2 _ _ _ _ _ _ _ _
      | exact impl_NextProbe.mono _ _ _ _ _ _ _ _ _
      | exact laws_eqProber.mono _ _ _ _ _ _ _ _ _ _ _ _ _
      | exact laws_eqTable.mono _ _ _ _ _
      | exact laws_heldProber.mono _ _ _ _ _ _ _ _
      | exact laws_markProber.mono _ _ _ _ _ _ _ _
      | exact laws_markTable.mono _ _ _ _
      | exact laws_toProber.mono _ _ _ _ _ _ _
      | exact laws_toTable.mono _ _ _
      | exact spec_NextProbe.mono _ _ _ _ _ _ _ _ _
      | exact LeO.none _
      | refine LeO.ite ?_ ?_
      | refine LeO.bind ?_ (fun _ => ?_)
theorem laws_FnExactNextProbe.mono : ∀ a0 a1 a2 a3 a4 a5 a6 a7 k, LeO (laws_FnExactNextProbe.f k a0 a1 a2 a3 a4 a5 a6 a7) (laws_FnExactNextProbe.f (k + 1) a0 a1 a2 a3 a4 a5 a6 a7) := by
  intro a0 a1 a2 a3 a4 a5 a6 a7 k
  obtain ⟨ih0, ih1, ih2⟩ := laws_FnExactNextProbe.mono_l k
  unfold laws_FnExactNextProbe.f
  repeat' first
      | (with_reducible exact ih0 _ _ _ _ _ _ _ _ _ _ _ _ _ _ _ _ _ _ _ _ _ _ _ _ _ _ _ _ _ _ _)
      | (with_reducible exact ih1 _ _ _ _ _ _ _ _ _ _ _ _ _ _ _ _ _ _ _ _ _ _)
      | (with_reducible exact ih2 _ _ _ _ _ _ _ _)
      | (with_reducible exact impl_NextProbe.mono _ _ _ _ _ _ _ _ _)
      | (with_reducible exact laws_eqProber.mono _ _ _ _ _ _ _ _ _ _ _ _ _)
      | (with_reducible exact laws_eqTable.mono _ _ _ _ _)
      | (with_reducible exact laws_heldProber.mono _ _ _ _ _ _ _ _)
      | (with_reducible exact laws_markProber.mono _ _ _ _ _ _ _ _)
      | (with_reducible exact laws_markTable.mono _ _ _ _)
      | (with_reducible exact laws_toProber.mono _ _ _ _ _ _ _)
      | (with_reducible exact laws_toTable.mono _ _ _)
      | (with_reducible exact spec_NextProbe.mono _ _ _ _ _ _ _ _ _)
      | (with_reducible exact LeO.refl _)
      | (with_reducible exact LeO.none _)
      | (with_reducible refine LeO.ite ?_ ?_)
      | (with_reducible refine LeO.bind ?_ (fun _ => ?_))
      | exact ih0 _ _ _ _ _ _ _ _ _ _ _ _ _ _ _ _ _ _ _ _ _ _ _ _ _ _ _ _ _ _ _
      | exact ih1 _ _ _ _ _ _ _ _ _ _ _ _ _ _ _ _ _ _ _ _ _ _
      | exact ih2 _ _ _ _ _ _ _ _
      | exact impl_NextProbe.mono _ _ _ _ _ _ _ _ _
      | exact laws_eqProber.mono _ _ _ _ _ _ _ _ _ _ _ _ _
      | exact laws_eqTable.mono _ _ _ _ _
      | exact laws_heldProber.mono _ _ _ _ _ _ _ _
      | exact laws_markProber.mono _ _ _ _ _ _ _ _
      | exact laws_markTable.mono _ _ _ _
      | exact laws_toProber.mono _ _ _ _ _ _ _
      | exact laws_toTable.mono _ _ _
      | exact spec_NextProbe.mono _ _ _ _ _ _ _ _ _
      | exact LeO.none _
      | refine LeO.ite ?_ ?_
      | refine LeO.bind ?_ (fun _ => ?_)
def laws_FnExactNextProbe.T8 : Bool × List (List Nat × List Nat) := (true, [([], []), ([0], [0]), ([], []), ([2, 1], [2]), ([1, 3, 3], [1, 3]), ([4], [4]), ([5], [5]), ([5], [5]), ([], []), ([8, 6, 4, 0, 1, 2, 3, 4, 5, 6, 8], [6, 8]), ([7, 9, 0, 1, 2, 3, 4, 5, 6, 7, 8, 9], [7])])
def laws_FnExactNextProbe.B8 : List Nat := [0, 1, 0, 7, 15, 31, 63, 63, 0, 383, 1023]
theorem laws_FnExactNextProbe.tab8 : rtab .any (opsOf Try.f13 8) = laws_FnExactNextProbe.T8 := by kernel_rfl
theorem laws_FnExactNextProbe.bits8 : waitsOk laws_FnExactNextProbe.T8.2 laws_FnExactNextProbe.B8 = true := by kernel_rfl
def laws_FnExactNextProbe.T31 : Bool × List (List Nat × List Nat) := (true, [([], []), ([0], [0]), ([], []), ([2, 1], [2]), ([1, 3, 3], [1, 3]), ([4], [4]), ([5], [5]), ([5], [5]), ([], []), ([8, 6, 4, 0, 1, 2, 3, 4, 5, 6, 8], [6, 8]), ([7, 9, 0, 1, 2, 3, 4, 5, 6, 7, 8, 9], [7])])
def laws_FnExactNextProbe.B31 : List Nat := [0, 1, 0, 7, 15, 31, 63, 63, 0, 383, 1023]
theorem laws_FnExactNextProbe.tab31 : rtab .any (opsOf Try.f13 31) = laws_FnExactNextProbe.T31 := by kernel_rfl
theorem laws_FnExactNextProbe.bits31 : waitsOk laws_FnExactNextProbe.T31.2 laws_FnExactNextProbe.B31 = true := by kernel_rfl
set_option maxHeartbeats 8000000 in
set_option maxRecDepth 100000 in
theorem laws_FnExactNextProbe.calls (k : Nat) (A0_0 : Option Addr) (c0_0 : Nat) (l0_0 : List Int) (a0_1 : Int) (a0_2 : Int) (a0_3 : Int) (a0_4 : Int) (a0_5 : Int) (a1_0 : Int) (A1_1 : Option Addr) (c1_1 : Nat) (l1_1 : List (S80)) (r : Bool) (w : World) (hr0_0 : Kd.C (Kd.int .i64) w A0_0 l0_0.length l0_0) (hc0_0 : l0_0.length ≤ c0_0) (hr1_1 : Kd.C k80 w A1_1 l1_1.length l1_1) (hc1_1 : l1_1.length ≤ c1_1) (h : laws_FnExactNextProbe.f k l0_0 a0_1 a0_2 a0_3 a0_4 a0_5 a1_0 l1_1 = some r) :
    Calls Try.prog 13 #[.agg #[.slice A0_0 l0_0.length c0_0, .int .i64 a0_1, .int .i64 a0_2, .int .i64 a0_3, .int .i64 a0_4, .int .i64 a0_5], .agg #[.int .i64 a1_0, .slice A1_1 l1_1.length c1_1]] w fun e w' => e = .returned (.bool r) ∧ Below w.heap.size w w' := by
  have hu88 := Try.underlying88
  have hu37 := Try.underlying37
  have hu90 := Try.underlying90
  have hu41 := Try.underlying41
  have HR0_0 := Aside0.mk hr0_0
  have HC0_0 := Aside0.mk hc0_0
  clear hr0_0 hc0_0
  have HR1_1 := Aside0.mk hr1_1
  have HC1_1 := Aside0.mk hc1_1
  clear hr1_1 hc1_1
  have HB := Aside0.mk (Below.refl w.heap.size w)
  have H : ((laws_szProber.f l0_0 a0_1 a0_2 a0_3 a0_4 a0_5 1048576).bind fun t332 => (if t332 < 0 then (some true) else ((laws_szTable.f a1_0 l1_1 t332).bind fun t333 => (if t333 < 0 then (some true) else ((laws_toProber.f k l0_0 a0_1 a0_2 a0_3 a0_4 a0_5).bind fun bt334 => ((laws_toTable.f k a1_0 l1_1).bind fun bt342 => ((spec_NextProbe.f k bt334.1 bt334.2.1 bt334.2.2.1 bt334.2.2.2.1 bt334.2.2.2.2.1 bt334.2.2.2.2.2 bt342.1 bt342.2).bind fun bt346 => ((laws_toProber.f k l0_0 a0_1 a0_2 a0_3 a0_4 a0_5).bind fun bt356 => ((laws_toTable.f k a1_0 l1_1).bind fun bt365 => ((impl_NextProbe.f k bt356.1 bt356.2.1 bt356.2.2.1 bt356.2.2.2.1 bt356.2.2.2.2.1 bt356.2.2.2.2.2 bt365.1 bt365.2).bind fun bt370 => ((laws_eqProber.f k bt370.1 bt370.2.1 bt370.2.2.1 bt370.2.2.2.1 bt370.2.2.2.2.1 bt370.2.2.2.2.2.1 bt346.1 bt346.2.1 bt346.2.2.1 bt346.2.2.2.1 bt346.2.2.2.2.1 bt346.2.2.2.2.2.1).bind fun t380 => (if t380 = true then (laws_FnExactNextProbe.j0 k bt346.2.2.2.2.2.2 bt370.2.2.2.2.2.2 (bt370.2.2.2.2.2.2 != bt346.2.2.2.2.2.2) l0_0 a0_1 a0_2 a0_3 a0_4 a0_5 a1_0 l1_1 bt346.1 bt346.2.1 bt346.2.2.1 bt346.2.2.2.1 bt346.2.2.2.2.1 bt346.2.2.2.2.2.1 bt356.1 bt356.2.1 bt356.2.2.1 bt356.2.2.2.1 bt356.2.2.2.2.1 bt356.2.2.2.2.2 bt365.1 bt365.2 bt370.1 bt370.2.1 bt370.2.2.1 bt370.2.2.2.1 bt370.2.2.2.2.1 bt370.2.2.2.2.2.1) else (laws_FnExactNextProbe.j0 k bt346.2.2.2.2.2.2 bt370.2.2.2.2.2.2 true l0_0 a0_1 a0_2 a0_3 a0_4 a0_5 a1_0 l1_1 bt346.1 bt346.2.1 bt346.2.2.1 bt346.2.2.2.1 bt346.2.2.2.2.1 bt346.2.2.2.2.2.1 bt356.1 bt356.2.1 bt356.2.2.1 bt356.2.2.2.1 bt356.2.2.2.2.1 bt356.2.2.2.2.2 bt365.1 bt365.2 bt370.1 bt370.2.1 bt370.2.2.1 bt370.2.2.2.1 bt370.2.2.2.2.1 bt370.2.2.2.2.2.1))))))))))))) = some r := h
  clear h
  replace H := Option.bind_eq_some_iff.mp H
  obtain ⟨t332, A30, H⟩ := H
  have A3 := Aside0.mk A30
  clear A30
  go_enter Try.func13, Try.ntmps13
  replace H := Aside0.mk H
  go_wp2_with (first | ((with_reducible refine gate_dst (N := 2) rfl ?_); refine box_event ?hg (N := 2) ?hd (cs := #[.slice A0_0 l0_0.length c0_0, .int .i64 a0_1, .int .i64 a0_2, .int .i64 a0_3, .int .i64 a0_4, .int .i64 a0_5]) (t := 88) ?hr ?_; (case hd => rfl); (case hg => rfl); (case hr => first | (go_simp; done) | (go_simp; rfl)); intro gb330 hg w4 hbox hb; have n_ := an (below_step (by exact bel0) hb) (an (hbox) (an ((by rw [hg]; exact (below_size (by exact bel0)) : w.heap.size ≤ gb330)) (an ((by rw [hg]; exact (below_size (by exact bel0)) : w.heap.size ≤ gb330)) (trivial)))); clear HB; obtain ⟨HB, BK330, GW330, GE330, -⟩ := n_; clear hb hbox hg) | ((with_reducible refine gate_dst (N := 3) rfl ?_); refine box_event ?hg (N := 3) ?hd (cs := #[.int .i64 a1_0, .slice A1_1 l1_1.length c1_1]) (t := 37) ?hr ?_; (case hd => rfl); (case hg => rfl); (case hr => first | (go_simp; done) | (go_simp; rfl)); intro gb331 hg w5 hbox hb; have n_ := an (blk_below (blk_nw BK330.out) hb) (an (below_step (by exact bel0) hb) (an (hbox) (an ((by rw [hg]; exact (below_size (by exact bel0)) : w.heap.size ≤ gb331)) (an ((by rw [hg]; exact (below_size (by exact bel0)) : w.heap.size ≤ gb331)) (an ((by rw [hg]; exact Nat.ne_of_lt (blk_lt (blk_nw BK330.out)) : gb330 ≠ gb331)) (an ((by rw [hg]; exact Nat.ne_of_gt (blk_lt (blk_nw BK330.out)) : gb331 ≠ gb330)) (trivial))))))); clear BK330 HB; obtain ⟨BK330, HB, BK331, GW331, GE331, NB330_331, NB331_330, -⟩ := n_; clear hb hbox hg; have hnb6 := NB330_331.out; have hnc6 := NB331_330.out; obtain ⟨hcz7_0, hcz7_1, hcz7_2, hcz7_3, hcz7_4, hcz7_5⟩ := blkz6 BK330.out; have hfz7_0 := blkf BK330.out) | ((with_reducible refine gate_callee (f := 56) rfl ?_); refine goesL_ (some 19) rfl rfl Try.func56 (by kernel_rfl) rfl #[.agg #[.slice A0_0 l0_0.length c0_0, .int .i64 a0_1, .int .i64 a0_2, .int .i64 a0_3, .int .i64 a0_4, .int .i64 a0_5], .int .i64 1048576] rfl (by (try simp only [List.map_toArray, List.map_cons, List.map_nil]); first | done | rfl | (simp only [List.length_drop, List.length_take]; rfl)) ?_; (with_reducible refine (laws_szProber.calls _ _ l0_0 a0_1 a0_2 a0_3 a0_4 a0_5 1048576 t332 _ ?side1 ?side2 A3.out).mono ?_); (case side1 => repeat (first | exact (Kd.C_below HR0_0.out HB.out) | (with_reducible refine Kd.C_alloc ?_ _) | (with_reducible refine Kd.C_drewN ?_ _) | (with_reducible refine Kd.C_drew ?_))); (case side2 => exact HC0_0.out); rintro e w8 ⟨rfl, hb⟩; refine ⟨_, rfl, ?_⟩; have n_ := an (blk_below (blk_nw BK330.out) hb) (an (blk_below (blk_nw BK331.out) hb) (an (below_step (by exact bel0) hb) (trivial))); clear BK330 BK331 HB; obtain ⟨BK330, BK331, HB, -⟩ := n_; (try clear hb); (try clear hb2); (try clear hk); (try clear hi); refine Stop.out ?_))
  refine Stop.mk ?_
  replace H := H.out
  by_cases c9 : t332 < 0
  · rw [if_pos c9] at H
    have c9b0 : decide (t332 < 0) = true := decide_eq_true c9
    clear c9
    (try simp only [c9b0])
    obtain rfl := Option.some.inj H
    go_wp2
    go_ret
    exact ⟨by first | rfl | (simp [errW_none, errW_some] <;> rfl) | (simp [*, errW_none, errW_some] <;> rfl), by exact bel0⟩
  · rw [if_neg c9] at H
    have c9b0 : decide (t332 < 0) = false := decide_eq_false c9
    clear c9
    (try simp only [c9b0])
    replace H := Option.bind_eq_some_iff.mp H
    obtain ⟨t333, A100, H⟩ := H
    have A10 := Aside0.mk A100
    clear A100
    have hnb11 := NB331_330.out
    have hnc11 := NB330_331.out
    obtain ⟨hcz12_0, hcz12_1⟩ := blkz2 BK331.out
    have hfz12_0 := blkf BK331.out
    replace H := Aside0.mk H
    go_wp2_with (first | ((with_reducible refine gate_callee (f := 23) rfl ?_); refine goesL_ (some 24) rfl rfl Try.func23 (by kernel_rfl) rfl #[.agg #[.int .i64 a1_0, .slice A1_1 l1_1.length c1_1], .int .i64 t332] rfl (by (try simp only [List.map_toArray, List.map_cons, List.map_nil]); first | done | rfl | (simp only [List.length_drop, List.length_take]; rfl)) ?_; (with_reducible refine (laws_szTable.calls a1_0 _ _ l1_1 t332 t333 _ ?side1 ?side2 A10.out).mono ?_); (case side1 => repeat (first | exact (Kd.C_below HR1_1.out HB.out) | (with_reducible refine Kd.C_alloc ?_ _) | (with_reducible refine Kd.C_drewN ?_ _) | (with_reducible refine Kd.C_drew ?_))); (case side2 => exact HC1_1.out); rintro e w13 ⟨rfl, hb⟩; refine ⟨_, rfl, ?_⟩; have n_ := an (blk_below (blk_nw BK330.out) hb) (an (blk_below (blk_nw BK331.out) hb) (an (below_step (by exact bel0) hb) (trivial))); clear BK330 BK331 HB; obtain ⟨BK330, BK331, HB, -⟩ := n_; (try clear hb); (try clear hb2); (try clear hk); (try clear hi); refine Stop.out ?_))
    refine Stop.mk ?_
    replace H := H.out
    by_cases c14 : t333 < 0
    · rw [if_pos c14] at H
      have c14b0 : decide (t333 < 0) = true := decide_eq_true c14
      clear c14
      (try simp only [c14b0])
      obtain rfl := Option.some.inj H
      go_wp2
      go_ret
      exact ⟨by first | rfl | (simp [errW_none, errW_some] <;> rfl) | (simp [*, errW_none, errW_some] <;> rfl), by exact bel0⟩
    · rw [if_neg c14] at H
      have c14b0 : decide (t333 < 0) = false := decide_eq_false c14
      clear c14
      (try simp only [c14b0])
      replace H := Option.bind_eq_some_iff.mp H
      obtain ⟨⟨t334, t337, t338, t339, t340, t341⟩, A150, H⟩ := H
      replace H : ((laws_toTable.f k a1_0 l1_1).bind fun bt342 => ((spec_NextProbe.f k t334 t337 t338 t339 t340 t341 bt342.1 bt342.2).bind fun bt346 => ((laws_toProber.f k l0_0 a0_1 a0_2 a0_3 a0_4 a0_5).bind fun bt356 => ((laws_toTable.f k a1_0 l1_1).bind fun bt365 => ((impl_NextProbe.f k bt356.1 bt356.2.1 bt356.2.2.1 bt356.2.2.2.1 bt356.2.2.2.2.1 bt356.2.2.2.2.2 bt365.1 bt365.2).bind fun bt370 => ((laws_eqProber.f k bt370.1 bt370.2.1 bt370.2.2.1 bt370.2.2.2.1 bt370.2.2.2.2.1 bt370.2.2.2.2.2.1 bt346.1 bt346.2.1 bt346.2.2.1 bt346.2.2.2.1 bt346.2.2.2.2.1 bt346.2.2.2.2.2.1).bind fun t380 => (if t380 = true then (laws_FnExactNextProbe.j0 k bt346.2.2.2.2.2.2 bt370.2.2.2.2.2.2 (bt370.2.2.2.2.2.2 != bt346.2.2.2.2.2.2) l0_0 a0_1 a0_2 a0_3 a0_4 a0_5 a1_0 l1_1 bt346.1 bt346.2.1 bt346.2.2.1 bt346.2.2.2.1 bt346.2.2.2.2.1 bt346.2.2.2.2.2.1 bt356.1 bt356.2.1 bt356.2.2.1 bt356.2.2.2.1 bt356.2.2.2.2.1 bt356.2.2.2.2.2 bt365.1 bt365.2 bt370.1 bt370.2.1 bt370.2.2.1 bt370.2.2.2.1 bt370.2.2.2.2.1 bt370.2.2.2.2.2.1) else (laws_FnExactNextProbe.j0 k bt346.2.2.2.2.2.2 bt370.2.2.2.2.2.2 true l0_0 a0_1 a0_2 a0_3 a0_4 a0_5 a1_0 l1_1 bt346.1 bt346.2.1 bt346.2.2.1 bt346.2.2.2.1 bt346.2.2.2.2.1 bt346.2.2.2.2.2.1 bt356.1 bt356.2.1 bt356.2.2.1 bt356.2.2.2.1 bt356.2.2.2.2.1 bt356.2.2.2.2.2 bt365.1 bt365.2 bt370.1 bt370.2.1 bt370.2.2.1 bt370.2.2.2.1 bt370.2.2.2.2.1 bt370.2.2.2.2.2.1)))))))) = some r := H
      have A15 := Aside0.mk A150
      clear A150
      replace H := Option.bind_eq_some_iff.mp H
      obtain ⟨⟨t342, t343⟩, A160, H⟩ := H
      replace H : ((spec_NextProbe.f k t334 t337 t338 t339 t340 t341 t342 t343).bind fun bt346 => ((laws_toProber.f k l0_0 a0_1 a0_2 a0_3 a0_4 a0_5).bind fun bt356 => ((laws_toTable.f k a1_0 l1_1).bind fun bt365 => ((impl_NextProbe.f k bt356.1 bt356.2.1 bt356.2.2.1 bt356.2.2.2.1 bt356.2.2.2.2.1 bt356.2.2.2.2.2 bt365.1 bt365.2).bind fun bt370 => ((laws_eqProber.f k bt370.1 bt370.2.1 bt370.2.2.1 bt370.2.2.2.1 bt370.2.2.2.2.1 bt370.2.2.2.2.2.1 bt346.1 bt346.2.1 bt346.2.2.1 bt346.2.2.2.1 bt346.2.2.2.2.1 bt346.2.2.2.2.2.1).bind fun t380 => (if t380 = true then (laws_FnExactNextProbe.j0 k bt346.2.2.2.2.2.2 bt370.2.2.2.2.2.2 (bt370.2.2.2.2.2.2 != bt346.2.2.2.2.2.2) l0_0 a0_1 a0_2 a0_3 a0_4 a0_5 a1_0 l1_1 bt346.1 bt346.2.1 bt346.2.2.1 bt346.2.2.2.1 bt346.2.2.2.2.1 bt346.2.2.2.2.2.1 bt356.1 bt356.2.1 bt356.2.2.1 bt356.2.2.2.1 bt356.2.2.2.2.1 bt356.2.2.2.2.2 bt365.1 bt365.2 bt370.1 bt370.2.1 bt370.2.2.1 bt370.2.2.2.1 bt370.2.2.2.2.1 bt370.2.2.2.2.2.1) else (laws_FnExactNextProbe.j0 k bt346.2.2.2.2.2.2 bt370.2.2.2.2.2.2 true l0_0 a0_1 a0_2 a0_3 a0_4 a0_5 a1_0 l1_1 bt346.1 bt346.2.1 bt346.2.2.1 bt346.2.2.2.1 bt346.2.2.2.2.1 bt346.2.2.2.2.2.1 bt356.1 bt356.2.1 bt356.2.2.1 bt356.2.2.2.1 bt356.2.2.2.2.1 bt356.2.2.2.2.2 bt365.1 bt365.2 bt370.1 bt370.2.1 bt370.2.2.1 bt370.2.2.2.1 bt370.2.2.2.2.1 bt370.2.2.2.2.2.1))))))) = some r := H
      have A16 := Aside0.mk A160
      clear A160
      replace H := Option.bind_eq_some_iff.mp H
      obtain ⟨⟨t346, t349, t350, t351, t352, t353, t354⟩, A170, H⟩ := H
      replace H : ((laws_toProber.f k l0_0 a0_1 a0_2 a0_3 a0_4 a0_5).bind fun bt356 => ((laws_toTable.f k a1_0 l1_1).bind fun bt365 => ((impl_NextProbe.f k bt356.1 bt356.2.1 bt356.2.2.1 bt356.2.2.2.1 bt356.2.2.2.2.1 bt356.2.2.2.2.2 bt365.1 bt365.2).bind fun bt370 => ((laws_eqProber.f k bt370.1 bt370.2.1 bt370.2.2.1 bt370.2.2.2.1 bt370.2.2.2.2.1 bt370.2.2.2.2.2.1 t346 t349 t350 t351 t352 t353).bind fun t380 => (if t380 = true then (laws_FnExactNextProbe.j0 k t354 bt370.2.2.2.2.2.2 (bt370.2.2.2.2.2.2 != t354) l0_0 a0_1 a0_2 a0_3 a0_4 a0_5 a1_0 l1_1 t346 t349 t350 t351 t352 t353 bt356.1 bt356.2.1 bt356.2.2.1 bt356.2.2.2.1 bt356.2.2.2.2.1 bt356.2.2.2.2.2 bt365.1 bt365.2 bt370.1 bt370.2.1 bt370.2.2.1 bt370.2.2.2.1 bt370.2.2.2.2.1 bt370.2.2.2.2.2.1) else (laws_FnExactNextProbe.j0 k t354 bt370.2.2.2.2.2.2 true l0_0 a0_1 a0_2 a0_3 a0_4 a0_5 a1_0 l1_1 t346 t349 t350 t351 t352 t353 bt356.1 bt356.2.1 bt356.2.2.1 bt356.2.2.2.1 bt356.2.2.2.2.1 bt356.2.2.2.2.2 bt365.1 bt365.2 bt370.1 bt370.2.1 bt370.2.2.1 bt370.2.2.2.1 bt370.2.2.2.2.1 bt370.2.2.2.2.2.1)))))) = some r := H
      have A17 := Aside0.mk A170
      clear A170
      replace H := Option.bind_eq_some_iff.mp H
      obtain ⟨⟨t356, t359, t360, t361, t362, t363⟩, A180, H⟩ := H
      replace H : ((laws_toTable.f k a1_0 l1_1).bind fun bt365 => ((impl_NextProbe.f k t356 t359 t360 t361 t362 t363 bt365.1 bt365.2).bind fun bt370 => ((laws_eqProber.f k bt370.1 bt370.2.1 bt370.2.2.1 bt370.2.2.2.1 bt370.2.2.2.2.1 bt370.2.2.2.2.2.1 t346 t349 t350 t351 t352 t353).bind fun t380 => (if t380 = true then (laws_FnExactNextProbe.j0 k t354 bt370.2.2.2.2.2.2 (bt370.2.2.2.2.2.2 != t354) l0_0 a0_1 a0_2 a0_3 a0_4 a0_5 a1_0 l1_1 t346 t349 t350 t351 t352 t353 t356 t359 t360 t361 t362 t363 bt365.1 bt365.2 bt370.1 bt370.2.1 bt370.2.2.1 bt370.2.2.2.1 bt370.2.2.2.2.1 bt370.2.2.2.2.2.1) else (laws_FnExactNextProbe.j0 k t354 bt370.2.2.2.2.2.2 true l0_0 a0_1 a0_2 a0_3 a0_4 a0_5 a1_0 l1_1 t346 t349 t350 t351 t352 t353 t356 t359 t360 t361 t362 t363 bt365.1 bt365.2 bt370.1 bt370.2.1 bt370.2.2.1 bt370.2.2.2.1 bt370.2.2.2.2.1 bt370.2.2.2.2.2.1))))) = some r := H
      have A18 := Aside0.mk A180
      clear A180
      replace H := Option.bind_eq_some_iff.mp H
      obtain ⟨⟨t365, t366⟩, A190, H⟩ := H
      replace H : ((impl_NextProbe.f k t356 t359 t360 t361 t362 t363 t365 t366).bind fun bt370 => ((laws_eqProber.f k bt370.1 bt370.2.1 bt370.2.2.1 bt370.2.2.2.1 bt370.2.2.2.2.1 bt370.2.2.2.2.2.1 t346 t349 t350 t351 t352 t353).bind fun t380 => (if t380 = true then (laws_FnExactNextProbe.j0 k t354 bt370.2.2.2.2.2.2 (bt370.2.2.2.2.2.2 != t354) l0_0 a0_1 a0_2 a0_3 a0_4 a0_5 a1_0 l1_1 t346 t349 t350 t351 t352 t353 t356 t359 t360 t361 t362 t363 t365 t366 bt370.1 bt370.2.1 bt370.2.2.1 bt370.2.2.2.1 bt370.2.2.2.2.1 bt370.2.2.2.2.2.1) else (laws_FnExactNextProbe.j0 k t354 bt370.2.2.2.2.2.2 true l0_0 a0_1 a0_2 a0_3 a0_4 a0_5 a1_0 l1_1 t346 t349 t350 t351 t352 t353 t356 t359 t360 t361 t362 t363 t365 t366 bt370.1 bt370.2.1 bt370.2.2.1 bt370.2.2.2.1 bt370.2.2.2.2.1 bt370.2.2.2.2.2.1)))) = some r := H
      have A19 := Aside0.mk A190
      clear A190
      replace H := Option.bind_eq_some_iff.mp H
      obtain ⟨⟨t370, t373, t374, t375, t376, t377, t378⟩, A200, H⟩ := H
      replace H : ((laws_eqProber.f k t370 t373 t374 t375 t376 t377 t346 t349 t350 t351 t352 t353).bind fun t380 => (if t380 = true then (laws_FnExactNextProbe.j0 k t354 t378 (t378 != t354) l0_0 a0_1 a0_2 a0_3 a0_4 a0_5 a1_0 l1_1 t346 t349 t350 t351 t352 t353 t356 t359 t360 t361 t362 t363 t365 t366 t370 t373 t374 t375 t376 t377) else (laws_FnExactNextProbe.j0 k t354 t378 true l0_0 a0_1 a0_2 a0_3 a0_4 a0_5 a1_0 l1_1 t346 t349 t350 t351 t352 t353 t356 t359 t360 t361 t362 t363 t365 t366 t370 t373 t374 t375 t376 t377))) = some r := H
      have A20 := Aside0.mk A200
      clear A200
      have HC21 := Aside0.mk H
      clear H
      try go_wp2
      have n_ := an (blk_drew BK330.out) (an (blk_drew BK331.out) (an (below_drew1 HB.out) (trivial)))
      clear BK330 BK331 HB
      obtain ⟨BK330, BK331, HB, -⟩ := n_
      refine start_ (n := 11) (S := fun w' => w'.cell? ⟨gb330, 0, none⟩ = some (.slice A0_0 l0_0.length c0_0) ∧ w'.cell? ⟨gb330, 1, none⟩ = some (.int .i64 a0_1) ∧ w'.cell? ⟨gb330, 2, none⟩ = some (.int .i64 a0_2) ∧ w'.cell? ⟨gb330, 3, none⟩ = some (.int .i64 a0_3) ∧ w'.cell? ⟨gb330, 4, none⟩ = some (.int .i64 a0_4) ∧ w'.cell? ⟨gb330, 5, none⟩ = some (.int .i64 a0_5) ∧ w'.cell? ⟨gb331, 0, none⟩ = some (.int .i64 a1_0) ∧ w'.cell? ⟨gb331, 1, none⟩ = some (.slice A1_1 l1_1.length c1_1)) (ds := []) #[false, false, false, false, false, false, false, false, false, false, false] (by kernel_rfl) rfl rfl ⟨(blk_cell BK330.out 0).trans rfl, (blk_cell BK330.out 1).trans rfl, (blk_cell BK330.out 2).trans rfl, (blk_cell BK330.out 3).trans rfl, (blk_cell BK330.out 4).trans rfl, (blk_cell BK330.out 5).trans rfl, (blk_cell BK331.out 0).trans rfl, (blk_cell BK331.out 1).trans rfl⟩ (fun hHeld => ?_); refine with_tabW laws_FnExactNextProbe.tab8 laws_FnExactNextProbe.bits8 (fun HT_ HW_ => ?_)
      generalize w13.drew = w22 at BK330 BK331 HB hHeld ⊢
      refine take_ (i := 0) (N := some 28) (v := ?_) (a' := ?_) #[true, false, false, false, false, false, false, false, false, false, false] rfl rfl (take_ofW HT_.out HW_.out (by kernel_rfl)) (fun _ _ _ h => h) (Or.inl ⟨by rfl, ?_⟩) hHeld ?_ ?_
      rotate_left
      · rintro w' ⟨s0, s1, s2, s3, s4, s5, s6, s7⟩
        go_simp
        with_reducible rfl
      rotate_left
      · simp only [Act.put, List.setIfInBounds_toArray, List.set_cons_zero, List.set_cons_succ, i64_w, i32_w]
        rfl
      refine take_ (i := 2) (N := some 30) (v := ?_) (a' := ?_) #[true, false, true, false, false, false, false, false, false, false, false] rfl rfl (take_ofW HT_.out HW_.out (by kernel_rfl)) (fun _ _ _ h => h) (Or.inl ⟨by rfl, ?_⟩) hHeld ?_ ?_
      rotate_left
      · rintro w' ⟨s0, s1, s2, s3, s4, s5, s6, s7⟩
        go_simp
        with_reducible rfl
      rotate_left
      · simp only [Act.put, List.setIfInBounds_toArray, List.set_cons_zero, List.set_cons_succ, i64_w, i32_w]
        rfl
      refine join_ (σ := Value × Value × Value × Nat) 2 #[true, true, true, true, true, true, true, true, true, false, false] (fun s_ => [(29, .agg #[s_.1, .int .i64 t337, .int .i64 t338, .int .i64 t339, .int .i64 t340, .int .i64 t341]), (31, .agg #[.int .i64 t342, s_.2.1]), (32, .tuple #[.agg #[s_.2.2.1, .int .i64 t349, .int .i64 t350, .int .i64 t351, .int .i64 t352, .int .i64 t353], .int .i64 t354]), (6, .pointer (some ⟨s_.2.2.2, 0, none⟩)), (27, .tuple #[.agg #[s_.2.2.1, .int .i64 t349, .int .i64 t350, .int .i64 t351, .int .i64 t352, .int .i64 t353], .int .i64 t354]), (33, .agg #[s_.2.2.1, .int .i64 t349, .int .i64 t350, .int .i64 t351, .int .i64 t352, .int .i64 t353]), (34, .int .i64 t354)]) (fun s_ w' => (w'.cell? ⟨gb330, 0, none⟩ = some (.slice A0_0 l0_0.length c0_0) ∧ w'.cell? ⟨gb330, 1, none⟩ = some (.int .i64 a0_1) ∧ w'.cell? ⟨gb330, 2, none⟩ = some (.int .i64 a0_2) ∧ w'.cell? ⟨gb330, 3, none⟩ = some (.int .i64 a0_3) ∧ w'.cell? ⟨gb330, 4, none⟩ = some (.int .i64 a0_4) ∧ w'.cell? ⟨gb330, 5, none⟩ = some (.int .i64 a0_5) ∧ w'.cell? ⟨gb331, 0, none⟩ = some (.int .i64 a1_0) ∧ w'.cell? ⟨gb331, 1, none⟩ = some (.slice A1_1 l1_1.length c1_1)) ∧ (Kd.R (Kd.int .i64) 3 w' w.heap.size (fun k_ => some k_ ≠ (s_.2.2.1 : Value).ownBlock) s_.1 t334) ∧ (Kd.R k82 82 w' w.heap.size (fun _ => True) s_.2.1 t343) ∧ (Kd.R (Kd.int .i64) 3 w' w.heap.size (fun k_ => some k_ ≠ (s_.1 : Value).ownBlock) s_.2.2.1 t346) ∧ (w'.heap[gb330]? = some (.cells #[.slice A0_0 l0_0.length c0_0, .int .i64 a0_1, .int .i64 a0_2, .int .i64 a0_3, .int .i64 a0_4, .int .i64 a0_5] 88 (0, 0))) ∧ (w'.heap[gb331]? = some (.cells #[.int .i64 a1_0, .slice A1_1 l1_1.length c1_1] 37 (0, 0))) ∧ (w'.heap[s_.2.2.2]? = some (.cells #[.slice none 0 0, .int .i64 0, .int .i64 0, .int .i64 0, .int .i64 0, .int .i64 0] 90 (0, 0))) ∧ (w.heap.size ≤ s_.2.2.2) ∧ (w.heap.size ≤ s_.2.2.2) ∧ (gb330 ≠ s_.2.2.2) ∧ (s_.2.2.2 ≠ gb330) ∧ (gb331 ≠ s_.2.2.2) ∧ (s_.2.2.2 ≠ gb331) ∧ (Below w.heap.size w w')) ?_ ?_
      rotate_left
      · intro hCont
        refine two_ (i := 1) (j := 8) (Ni := some 29) (Nj := some 6) #[true, true, true, false, false, false, false, false, false, false, false] #[true, false, true, false, false, false, false, false, true, false, false] rfl rfl rfl rfl (two_of HT_.out (by kernel_rfl)) (by decide) (by decide) (fun K hK => ?_) (fun K hK => ?_)
        · skip
          refine goes_ Try.func58 (by kernel_rfl) rfl #[.agg #[.slice A0_0 l0_0.length c0_0, .int .i64 a0_1, .int .i64 a0_2, .int .i64 a0_3, .int .i64 a0_4, .int .i64 a0_5]] (by rfl) rfl rfl (by (try simp only [List.map_toArray, List.map_cons, List.map_nil]); first | done | rfl | (simp only [List.length_drop, List.length_take]; rfl)) ?_
          with_reducible refine (laws_toProber.calls k _ _ l0_0 a0_1 a0_2 a0_3 a0_4 a0_5 t334 t337 t338 t339 t340 t341 _ ?side1 ?side2 A15.out).mono ?_
          (case side1 => repeat (first | exact (Kd.C_below HR0_0.out HB.out) | (with_reducible refine Kd.C_alloc ?_ _) | (with_reducible refine Kd.C_drewN ?_ _) | (with_reducible refine Kd.C_drew ?_)))
          (case side2 => exact HC0_0.out)
          rintro e w23 ⟨v335, rfl, ho0, hb⟩
          refine ⟨_, rfl, ?_⟩
          have n_ := an (Kd.R_lower ho0 (below_size (by exact bel0))) (an (blk_below (blk_nw BK330.out) hb) (an (blk_below (blk_nw BK331.out) hb) (an (below_step (by exact bel0) hb) (trivial))))
          clear BK330 BK331 HB
          obtain ⟨HO336, BK330, BK331, HB, -⟩ := n_
          (try clear hb)
          (try clear hb2)
          (try clear hk)
          (try clear hi)
          (try clear ho0)
          refine hK.out _ _ ⟨(blk_cell BK330.out 0).trans rfl, (blk_cell BK330.out 1).trans rfl, (blk_cell BK330.out 2).trans rfl, (blk_cell BK330.out 3).trans rfl, (blk_cell BK330.out 4).trans rfl, (blk_cell BK330.out 5).trans rfl, (blk_cell BK331.out 0).trans rfl, (blk_cell BK331.out 1).trans rfl⟩ (fun hHeld => ?_)
          clear hK K
          refine norm_ (a' := ?_) ?_ ?_
          rotate_left
          · show Act.put _ (some 29) _ = _
            simp only [Act.put, List.setIfInBounds_toArray, List.set_cons_zero, List.set_cons_succ, i64_w, i32_w]
            rfl
          refine two_ (i := 3) (j := 8) (Ni := some 31) (Nj := some 6) #[true, true, true, true, false, false, false, false, false, false, false] #[true, true, true, false, false, false, false, false, true, false, false] rfl rfl rfl rfl (two_of HT_.out (by kernel_rfl)) (by decide) (by decide) (fun K hK => ?_) (fun K hK => ?_)
          · skip
            refine goes_ Try.func25 (by kernel_rfl) rfl #[.agg #[.int .i64 a1_0, .slice A1_1 l1_1.length c1_1]] (by rfl) rfl rfl (by (try simp only [List.map_toArray, List.map_cons, List.map_nil]); first | done | rfl | (simp only [List.length_drop, List.length_take]; rfl)) ?_
            with_reducible refine (laws_toTable.calls k a1_0 _ _ l1_1 t342 t343 _ ?side1 ?side2 A16.out).mono ?_
            (case side1 => repeat (first | exact (Kd.C_below HR1_1.out HB.out) | (with_reducible refine Kd.C_alloc ?_ _) | (with_reducible refine Kd.C_drewN ?_ _) | (with_reducible refine Kd.C_drew ?_)))
            (case side2 => exact HC1_1.out)
            rintro e w24 ⟨v344, rfl, ho0, hb⟩
            refine ⟨_, rfl, ?_⟩
            have n_ := an (Kd.R_below (by exact Kd.R_nw HO336.out) hb) (an (Kd.R_lower ho0 (below_size (by exact bel0))) (an (blk_below (blk_nw BK330.out) hb) (an (blk_below (blk_nw BK331.out) hb) (an (below_step (by exact bel0) hb) (trivial)))))
            clear HO336 BK330 BK331 HB
            obtain ⟨HO336, HO345, BK330, BK331, HB, -⟩ := n_
            (try clear hb)
            (try clear hb2)
            (try clear hk)
            (try clear hi)
            (try clear ho0)
            obtain ⟨Ao25, co25, eo25⟩ := Kd.R_slice HO336.out
            (first | subst eo25 | (injection eo25 with f1_ f2_ f3_; have f4_ := f1_.symm; have f5_ := f3_.symm; clear f1_ f2_ f3_; subst f4_; subst f5_))
            obtain ⟨Ao26, co26, eo26⟩ := Kd.R_slice HO345.out
            (first | subst eo26 | (injection eo26 with f1_ f2_ f3_; have f4_ := f1_.symm; have f5_ := f3_.symm; clear f1_ f2_ f3_; subst f4_; subst f5_))
            refine hK.out _ _ ⟨(blk_cell BK330.out 0).trans rfl, (blk_cell BK330.out 1).trans rfl, (blk_cell BK330.out 2).trans rfl, (blk_cell BK330.out 3).trans rfl, (blk_cell BK330.out 4).trans rfl, (blk_cell BK330.out 5).trans rfl, (blk_cell BK331.out 0).trans rfl, (blk_cell BK331.out 1).trans rfl⟩ (fun hHeld => ?_)
            clear hK K
            refine norm_ (a' := ?_) ?_ ?_
            rotate_left
            · show Act.put _ (some 31) _ = _
              simp only [Act.put, List.setIfInBounds_toArray, List.set_cons_zero, List.set_cons_succ, i64_w, i32_w]
              rfl
            refine two_ (i := 4) (j := 8) (Ni := some 32) (Nj := some 6) #[true, true, true, true, true, false, false, false, false, false, false] #[true, true, true, true, false, false, false, false, true, false, false] rfl rfl rfl rfl (two_of HT_.out (by kernel_rfl)) (by decide) (by decide) (fun K hK => ?_) (fun K hK => ?_)
            · skip
              refine goes_ Try.func63 (by kernel_rfl) rfl #[.agg #[.slice Ao25 t334.length co25, .int .i64 t337, .int .i64 t338, .int .i64 t339, .int .i64 t340, .int .i64 t341], .agg #[.int .i64 t342, .slice Ao26 t343.length co26]] (by rfl) rfl rfl (by (try simp only [List.map_toArray, List.map_cons, List.map_nil]); first | done | rfl | (simp only [List.length_drop, List.length_take]; rfl)) ?_
              with_reducible refine (spec_NextProbe.calls k _ _ t334 t337 t338 t339 t340 t341 t342 _ _ t343 t346 t349 t350 t351 t352 t353 t354 _ ?side1 ?side2 ?side3 ?side4 A17.out).mono ?_
              (case side1 => repeat (first | exact (Kd.R_reads' HO336.out).2.2 | (with_reducible refine Kd.C_alloc ?_ _) | (with_reducible refine Kd.C_drewN ?_ _) | (with_reducible refine Kd.C_drew ?_)))
              (case side2 => exact (Kd.R_reads' HO336.out).2.1)
              (case side3 => repeat (first | exact (Kd.R_reads' HO345.out).2.2 | (with_reducible refine Kd.C_alloc ?_ _) | (with_reducible refine Kd.C_drewN ?_ _) | (with_reducible refine Kd.C_drew ?_)))
              (case side4 => exact (Kd.R_reads' HO345.out).2.1)
              rintro e w27 ⟨v347, rfl, ho0, hb⟩
              refine ⟨_, rfl, ?_⟩
              have n_ := an (Kd.R_elder' (by exact Kd.R_nw HO336.out) (Kd.R_base ho0) hb) (an (Kd.R_below (by exact Kd.R_nw HO345.out) hb) (an (Kd.R_lower (Kd.R_new' ho0 (Kd.R_lt (by exact Kd.R_nw HO336.out))) (below_size (by exact bel0))) (an (blk_below (blk_nw BK330.out) hb) (an (blk_below (blk_nw BK331.out) hb) (an (below_step (by exact bel0) hb) (trivial))))))
              clear HO336 HO345 BK330 BK331 HB
              obtain ⟨HO336, HO345, HO348, BK330, BK331, HB, -⟩ := n_
              (try clear hb)
              (try clear hb2)
              (try clear hk)
              (try clear hi)
              (try clear ho0)
              refine hK.out _ _ ⟨(blk_cell BK330.out 0).trans rfl, (blk_cell BK330.out 1).trans rfl, (blk_cell BK330.out 2).trans rfl, (blk_cell BK330.out 3).trans rfl, (blk_cell BK330.out 4).trans rfl, (blk_cell BK330.out 5).trans rfl, (blk_cell BK331.out 0).trans rfl, (blk_cell BK331.out 1).trans rfl⟩ (fun hHeld => ?_)
              clear hK K
              refine norm_ (a' := ?_) ?_ ?_
              rotate_left
              · show Act.put _ (some 32) _ = _
                simp only [Act.put, List.setIfInBounds_toArray, List.set_cons_zero, List.set_cons_succ, i64_w, i32_w]
                rfl
              refine pure_ (i := 5) (N := some 27) (v := ?_) (a' := ?_) #[true, true, true, true, true, true, false, false, false, false, false] rfl rfl (any_of HT_.out (by kernel_rfl)) (fun _ _ _ h => h) (Or.inl ⟨by rfl, ?_⟩) ?_ ?_
              rotate_left
              · intro w'
                go_simp
                with_reducible rfl
              rotate_left
              · simp only [Act.put, List.setIfInBounds_toArray, List.set_cons_zero, List.set_cons_succ, i64_w, i32_w]
                rfl
              refine pure_ (i := 6) (N := some 33) (v := ?_) (a' := ?_) #[true, true, true, true, true, true, true, false, false, false, false] rfl rfl (any_of HT_.out (by kernel_rfl)) (fun _ _ _ h => h) (Or.inl ⟨by rfl, ?_⟩) ?_ ?_
              rotate_left
              · intro w'
                go_simp
                with_reducible rfl
              rotate_left
              · simp only [Act.put, List.setIfInBounds_toArray, List.set_cons_zero, List.set_cons_succ, i64_w, i32_w]
                rfl
              refine pure_ (i := 7) (N := some 34) (v := ?_) (a' := ?_) #[true, true, true, true, true, true, true, true, false, false, false] rfl rfl (any_of HT_.out (by kernel_rfl)) (fun _ _ _ h => h) (Or.inl ⟨by rfl, ?_⟩) ?_ ?_
              rotate_left
              · intro w'
                go_simp
                with_reducible rfl
              rotate_left
              · simp only [Act.put, List.setIfInBounds_toArray, List.set_cons_zero, List.set_cons_succ, i64_w, i32_w]
                rfl
              refine one_ (i := 8) (N := some 6) #[true, true, true, true, true, true, true, true, true, false, false] rfl rfl (one_of HT_.out (by kernel_rfl)) (by decide) (fun K hK => ?_)
              refine box_step ?hg (N := 6) ?hd (cs := #[.slice none 0 0, .int .i64 0, .int .i64 0, .int .i64 0, .int .i64 0, .int .i64 0]) (t := 90) ?hr ?_; (case hd => rfl); (case hg => rfl); (case hr => first | (go_simp; done) | (go_simp; rfl))
              intro gb355 hg w28 hbox hb
              have n_ := an (Kd.R_below (by exact Kd.R_nw HO336.out) hb) (an (Kd.R_below (by exact Kd.R_nw HO345.out) hb) (an (Kd.R_below (by exact Kd.R_nw HO348.out) hb) (an (blk_below (blk_nw BK330.out) hb) (an (blk_below (blk_nw BK331.out) hb) (an (below_step (by exact bel0) hb) (an (hbox) (an ((by rw [hg]; exact (below_size (by exact bel0)) : w.heap.size ≤ gb355)) (an ((by rw [hg]; exact (below_size (by exact bel0)) : w.heap.size ≤ gb355)) (an ((by rw [hg]; exact Nat.ne_of_lt (blk_lt (blk_nw BK330.out)) : gb330 ≠ gb355)) (an ((by rw [hg]; exact Nat.ne_of_gt (blk_lt (blk_nw BK330.out)) : gb355 ≠ gb330)) (an ((by rw [hg]; exact Nat.ne_of_lt (blk_lt (blk_nw BK331.out)) : gb331 ≠ gb355)) (an ((by rw [hg]; exact Nat.ne_of_gt (blk_lt (blk_nw BK331.out)) : gb355 ≠ gb331)) (trivial)))))))))))))
              clear HO336 HO345 HO348 BK330 BK331 HB
              obtain ⟨HO336, HO345, HO348, BK330, BK331, HB, BK355, GW355, GE355, NB330_355, NB355_330, NB331_355, NB355_331, -⟩ := n_
              clear hb hbox hg
              refine hK.out _ _ ⟨(blk_cell BK330.out 0).trans rfl, (blk_cell BK330.out 1).trans rfl, (blk_cell BK330.out 2).trans rfl, (blk_cell BK330.out 3).trans rfl, (blk_cell BK330.out 4).trans rfl, (blk_cell BK330.out 5).trans rfl, (blk_cell BK331.out 0).trans rfl, (blk_cell BK331.out 1).trans rfl⟩ (fun hHeld => ?_)
              clear hK K
              refine norm_ (a' := ?_) ?_ ?_
              rotate_left
              · show Act.put _ (some 6) _ = _
                simp only [Act.put, List.setIfInBounds_toArray, List.set_cons_zero, List.set_cons_succ, i64_w, i32_w]
                rfl
              exact norm_ (by simp only [putAll, Act.put, List.setIfInBounds_toArray, List.set_cons_zero, List.set_cons_succ]) (hCont (.slice Ao25 t334.length co25, .slice Ao26 t343.length co26, v347, gb355) _ ⟨hHeld, (by exact Kd.R_nw (Kd.R_mono HO336.out (fun _ hk => hk.2))), (by exact Kd.R_nw HO345.out), (by exact Kd.R_nw (Kd.R_mono HO348.out (fun _ hk => hk.2))), (by exact blk_nw BK330.out), (by exact blk_nw BK331.out), (by exact blk_nw BK355.out), GW355.out, GE355.out, NB330_355.out, NB355_330.out, NB331_355.out, NB355_331.out, (by exact bel0)⟩)
            · skip
              refine box_step ?hg (N := 6) ?hd (cs := #[.slice none 0 0, .int .i64 0, .int .i64 0, .int .i64 0, .int .i64 0, .int .i64 0]) (t := 90) ?hr ?_; (case hd => rfl); (case hg => rfl); (case hr => first | (go_simp; done) | (go_simp; rfl))
              intro gb355 hg w25 hbox hb
              have n_ := an (Kd.R_below (by exact Kd.R_nw HO336.out) hb) (an (Kd.R_below (by exact Kd.R_nw HO345.out) hb) (an (blk_below (blk_nw BK330.out) hb) (an (blk_below (blk_nw BK331.out) hb) (an (below_step (by exact bel0) hb) (an (hbox) (an ((by rw [hg]; exact (below_size (by exact bel0)) : w.heap.size ≤ gb355)) (an ((by rw [hg]; exact (below_size (by exact bel0)) : w.heap.size ≤ gb355)) (an ((by rw [hg]; exact Nat.ne_of_lt (blk_lt (blk_nw BK330.out)) : gb330 ≠ gb355)) (an ((by rw [hg]; exact Nat.ne_of_gt (blk_lt (blk_nw BK330.out)) : gb355 ≠ gb330)) (an ((by rw [hg]; exact Nat.ne_of_lt (blk_lt (blk_nw BK331.out)) : gb331 ≠ gb355)) (an ((by rw [hg]; exact Nat.ne_of_gt (blk_lt (blk_nw BK331.out)) : gb355 ≠ gb331)) (trivial))))))))))))
              clear HO336 HO345 BK330 BK331 HB
              obtain ⟨HO336, HO345, BK330, BK331, HB, BK355, GW355, GE355, NB330_355, NB355_330, NB331_355, NB355_331, -⟩ := n_
              clear hb hbox hg
              obtain ⟨Ao26, co26, eo26⟩ := Kd.R_slice HO336.out
              (first | subst eo26 | (injection eo26 with f1_ f2_ f3_; have f4_ := f1_.symm; have f5_ := f3_.symm; clear f1_ f2_ f3_; subst f4_; subst f5_))
              obtain ⟨Ao27, co27, eo27⟩ := Kd.R_slice HO345.out
              (first | subst eo27 | (injection eo27 with f1_ f2_ f3_; have f4_ := f1_.symm; have f5_ := f3_.symm; clear f1_ f2_ f3_; subst f4_; subst f5_))
              refine hK.out _ _ ⟨(blk_cell BK330.out 0).trans rfl, (blk_cell BK330.out 1).trans rfl, (blk_cell BK330.out 2).trans rfl, (blk_cell BK330.out 3).trans rfl, (blk_cell BK330.out 4).trans rfl, (blk_cell BK330.out 5).trans rfl, (blk_cell BK331.out 0).trans rfl, (blk_cell BK331.out 1).trans rfl⟩ (fun hHeld => ?_)
              clear hK K
              refine norm_ (a' := ?_) ?_ ?_
              rotate_left
              · show Act.put _ (some 6) _ = _
                simp only [Act.put, List.setIfInBounds_toArray, List.set_cons_zero, List.set_cons_succ, i64_w, i32_w]
                rfl
              refine one_ (i := 4) (N := some 32) #[true, true, true, true, true, false, false, false, true, false, false] rfl rfl (one_of HT_.out (by kernel_rfl)) (by decide) (fun K hK => ?_)
              refine goes_ Try.func63 (by kernel_rfl) rfl #[.agg #[.slice Ao26 t334.length co26, .int .i64 t337, .int .i64 t338, .int .i64 t339, .int .i64 t340, .int .i64 t341], .agg #[.int .i64 t342, .slice Ao27 t343.length co27]] (by rfl) rfl rfl (by (try simp only [List.map_toArray, List.map_cons, List.map_nil]); first | done | rfl | (simp only [List.length_drop, List.length_take]; rfl)) ?_
              with_reducible refine (spec_NextProbe.calls k _ _ t334 t337 t338 t339 t340 t341 t342 _ _ t343 t346 t349 t350 t351 t352 t353 t354 _ ?side1 ?side2 ?side3 ?side4 A17.out).mono ?_
              (case side1 => repeat (first | exact (Kd.R_reads' HO336.out).2.2 | (with_reducible refine Kd.C_alloc ?_ _) | (with_reducible refine Kd.C_drewN ?_ _) | (with_reducible refine Kd.C_drew ?_)))
              (case side2 => exact (Kd.R_reads' HO336.out).2.1)
              (case side3 => repeat (first | exact (Kd.R_reads' HO345.out).2.2 | (with_reducible refine Kd.C_alloc ?_ _) | (with_reducible refine Kd.C_drewN ?_ _) | (with_reducible refine Kd.C_drew ?_)))
              (case side4 => exact (Kd.R_reads' HO345.out).2.1)
              rintro e w28 ⟨v347, rfl, ho0, hb⟩
              refine ⟨_, rfl, ?_⟩
              have n_ := an (Kd.R_elder' (by exact Kd.R_nw HO336.out) (Kd.R_base ho0) hb) (an (Kd.R_below (by exact Kd.R_nw HO345.out) hb) (an (Kd.R_lower (Kd.R_new' ho0 (Kd.R_lt (by exact Kd.R_nw HO336.out))) (below_size (by exact bel0))) (an (blk_below (blk_nw BK330.out) hb) (an (blk_below (blk_nw BK331.out) hb) (an (blk_below (blk_nw BK355.out) hb) (an (below_step (by exact bel0) hb) (trivial)))))))
              clear HO336 HO345 BK330 BK331 BK355 HB
              obtain ⟨HO336, HO345, HO348, BK330, BK331, BK355, HB, -⟩ := n_
              (try clear hb)
              (try clear hb2)
              (try clear hk)
              (try clear hi)
              (try clear ho0)
              refine hK.out _ _ ⟨(blk_cell BK330.out 0).trans rfl, (blk_cell BK330.out 1).trans rfl, (blk_cell BK330.out 2).trans rfl, (blk_cell BK330.out 3).trans rfl, (blk_cell BK330.out 4).trans rfl, (blk_cell BK330.out 5).trans rfl, (blk_cell BK331.out 0).trans rfl, (blk_cell BK331.out 1).trans rfl⟩ (fun hHeld => ?_)
              clear hK K
              refine norm_ (a' := ?_) ?_ ?_
              rotate_left
              · show Act.put _ (some 32) _ = _
                simp only [Act.put, List.setIfInBounds_toArray, List.set_cons_zero, List.set_cons_succ, i64_w, i32_w]
                rfl
              refine pure_ (i := 5) (N := some 27) (v := ?_) (a' := ?_) #[true, true, true, true, true, true, false, false, true, false, false] rfl rfl (any_of HT_.out (by kernel_rfl)) (fun _ _ _ h => h) (Or.inl ⟨by rfl, ?_⟩) ?_ ?_
              rotate_left
              · intro w'
                go_simp
                with_reducible rfl
              rotate_left
              · simp only [Act.put, List.setIfInBounds_toArray, List.set_cons_zero, List.set_cons_succ, i64_w, i32_w]
                rfl
              refine pure_ (i := 6) (N := some 33) (v := ?_) (a' := ?_) #[true, true, true, true, true, true, true, false, true, false, false] rfl rfl (any_of HT_.out (by kernel_rfl)) (fun _ _ _ h => h) (Or.inl ⟨by rfl, ?_⟩) ?_ ?_
              rotate_left
              · intro w'
                go_simp
                with_reducible rfl
              rotate_left
              · simp only [Act.put, List.setIfInBounds_toArray, List.set_cons_zero, List.set_cons_succ, i64_w, i32_w]
                rfl
              refine pure_ (i := 7) (N := some 34) (v := ?_) (a' := ?_) #[true, true, true, true, true, true, true, true, true, false, false] rfl rfl (any_of HT_.out (by kernel_rfl)) (fun _ _ _ h => h) (Or.inl ⟨by rfl, ?_⟩) ?_ ?_
              rotate_left
              · intro w'
                go_simp
                with_reducible rfl
              rotate_left
              · simp only [Act.put, List.setIfInBounds_toArray, List.set_cons_zero, List.set_cons_succ, i64_w, i32_w]
                rfl
              exact norm_ (by simp only [putAll, Act.put, List.setIfInBounds_toArray, List.set_cons_zero, List.set_cons_succ]) (hCont (.slice Ao26 t334.length co26, .slice Ao27 t343.length co27, v347, gb355) _ ⟨hHeld, (by exact Kd.R_nw (Kd.R_mono HO336.out (fun _ hk => hk.2))), (by exact Kd.R_nw HO345.out), (by exact Kd.R_nw (Kd.R_mono HO348.out (fun _ hk => hk.2))), (by exact blk_nw BK330.out), (by exact blk_nw BK331.out), (by exact blk_nw BK355.out), GW355.out, GE355.out, NB330_355.out, NB355_330.out, NB331_355.out, NB355_331.out, (by exact bel0)⟩)
          · skip
            refine box_step ?hg (N := 6) ?hd (cs := #[.slice none 0 0, .int .i64 0, .int .i64 0, .int .i64 0, .int .i64 0, .int .i64 0]) (t := 90) ?hr ?_; (case hd => rfl); (case hg => rfl); (case hr => first | (go_simp; done) | (go_simp; rfl))
            intro gb355 hg w24 hbox hb
            have n_ := an (Kd.R_below (by exact Kd.R_nw HO336.out) hb) (an (blk_below (blk_nw BK330.out) hb) (an (blk_below (blk_nw BK331.out) hb) (an (below_step (by exact bel0) hb) (an (hbox) (an ((by rw [hg]; exact (below_size (by exact bel0)) : w.heap.size ≤ gb355)) (an ((by rw [hg]; exact (below_size (by exact bel0)) : w.heap.size ≤ gb355)) (an ((by rw [hg]; exact Nat.ne_of_lt (blk_lt (blk_nw BK330.out)) : gb330 ≠ gb355)) (an ((by rw [hg]; exact Nat.ne_of_gt (blk_lt (blk_nw BK330.out)) : gb355 ≠ gb330)) (an ((by rw [hg]; exact Nat.ne_of_lt (blk_lt (blk_nw BK331.out)) : gb331 ≠ gb355)) (an ((by rw [hg]; exact Nat.ne_of_gt (blk_lt (blk_nw BK331.out)) : gb355 ≠ gb331)) (trivial)))))))))))
            clear HO336 BK330 BK331 HB
            obtain ⟨HO336, BK330, BK331, HB, BK355, GW355, GE355, NB330_355, NB355_330, NB331_355, NB355_331, -⟩ := n_
            clear hb hbox hg
            refine hK.out _ _ ⟨(blk_cell BK330.out 0).trans rfl, (blk_cell BK330.out 1).trans rfl, (blk_cell BK330.out 2).trans rfl, (blk_cell BK330.out 3).trans rfl, (blk_cell BK330.out 4).trans rfl, (blk_cell BK330.out 5).trans rfl, (blk_cell BK331.out 0).trans rfl, (blk_cell BK331.out 1).trans rfl⟩ (fun hHeld => ?_)
            clear hK K
            refine norm_ (a' := ?_) ?_ ?_
            rotate_left
            · show Act.put _ (some 6) _ = _
              simp only [Act.put, List.setIfInBounds_toArray, List.set_cons_zero, List.set_cons_succ, i64_w, i32_w]
              rfl
            refine one_ (i := 3) (N := some 31) #[true, true, true, true, false, false, false, false, true, false, false] rfl rfl (one_of HT_.out (by kernel_rfl)) (by decide) (fun K hK => ?_)
            refine goes_ Try.func25 (by kernel_rfl) rfl #[.agg #[.int .i64 a1_0, .slice A1_1 l1_1.length c1_1]] (by rfl) rfl rfl (by (try simp only [List.map_toArray, List.map_cons, List.map_nil]); first | done | rfl | (simp only [List.length_drop, List.length_take]; rfl)) ?_
            with_reducible refine (laws_toTable.calls k a1_0 _ _ l1_1 t342 t343 _ ?side1 ?side2 A16.out).mono ?_
            (case side1 => repeat (first | exact (Kd.C_below HR1_1.out HB.out) | (with_reducible refine Kd.C_alloc ?_ _) | (with_reducible refine Kd.C_drewN ?_ _) | (with_reducible refine Kd.C_drew ?_)))
            (case side2 => exact HC1_1.out)
            rintro e w25 ⟨v344, rfl, ho0, hb⟩
            refine ⟨_, rfl, ?_⟩
            have n_ := an (Kd.R_below (by exact Kd.R_nw HO336.out) hb) (an (Kd.R_lower ho0 (below_size (by exact bel0))) (an (blk_below (blk_nw BK330.out) hb) (an (blk_below (blk_nw BK331.out) hb) (an (blk_below (blk_nw BK355.out) hb) (an (below_step (by exact bel0) hb) (trivial))))))
            clear HO336 BK330 BK331 BK355 HB
            obtain ⟨HO336, HO345, BK330, BK331, BK355, HB, -⟩ := n_
            (try clear hb)
            (try clear hb2)
            (try clear hk)
            (try clear hi)
            (try clear ho0)
            obtain ⟨Ao26, co26, eo26⟩ := Kd.R_slice HO336.out
            (first | subst eo26 | (injection eo26 with f1_ f2_ f3_; have f4_ := f1_.symm; have f5_ := f3_.symm; clear f1_ f2_ f3_; subst f4_; subst f5_))
            obtain ⟨Ao27, co27, eo27⟩ := Kd.R_slice HO345.out
            (first | subst eo27 | (injection eo27 with f1_ f2_ f3_; have f4_ := f1_.symm; have f5_ := f3_.symm; clear f1_ f2_ f3_; subst f4_; subst f5_))
            refine hK.out _ _ ⟨(blk_cell BK330.out 0).trans rfl, (blk_cell BK330.out 1).trans rfl, (blk_cell BK330.out 2).trans rfl, (blk_cell BK330.out 3).trans rfl, (blk_cell BK330.out 4).trans rfl, (blk_cell BK330.out 5).trans rfl, (blk_cell BK331.out 0).trans rfl, (blk_cell BK331.out 1).trans rfl⟩ (fun hHeld => ?_)
            clear hK K
            refine norm_ (a' := ?_) ?_ ?_
            rotate_left
            · show Act.put _ (some 31) _ = _
              simp only [Act.put, List.setIfInBounds_toArray, List.set_cons_zero, List.set_cons_succ, i64_w, i32_w]
              rfl
            refine one_ (i := 4) (N := some 32) #[true, true, true, true, true, false, false, false, true, false, false] rfl rfl (one_of HT_.out (by kernel_rfl)) (by decide) (fun K hK => ?_)
            refine goes_ Try.func63 (by kernel_rfl) rfl #[.agg #[.slice Ao26 t334.length co26, .int .i64 t337, .int .i64 t338, .int .i64 t339, .int .i64 t340, .int .i64 t341], .agg #[.int .i64 t342, .slice Ao27 t343.length co27]] (by rfl) rfl rfl (by (try simp only [List.map_toArray, List.map_cons, List.map_nil]); first | done | rfl | (simp only [List.length_drop, List.length_take]; rfl)) ?_
            with_reducible refine (spec_NextProbe.calls k _ _ t334 t337 t338 t339 t340 t341 t342 _ _ t343 t346 t349 t350 t351 t352 t353 t354 _ ?side1 ?side2 ?side3 ?side4 A17.out).mono ?_
            (case side1 => repeat (first | exact (Kd.R_reads' HO336.out).2.2 | (with_reducible refine Kd.C_alloc ?_ _) | (with_reducible refine Kd.C_drewN ?_ _) | (with_reducible refine Kd.C_drew ?_)))
            (case side2 => exact (Kd.R_reads' HO336.out).2.1)
            (case side3 => repeat (first | exact (Kd.R_reads' HO345.out).2.2 | (with_reducible refine Kd.C_alloc ?_ _) | (with_reducible refine Kd.C_drewN ?_ _) | (with_reducible refine Kd.C_drew ?_)))
            (case side4 => exact (Kd.R_reads' HO345.out).2.1)
            rintro e w28 ⟨v347, rfl, ho0, hb⟩
            refine ⟨_, rfl, ?_⟩
            have n_ := an (Kd.R_elder' (by exact Kd.R_nw HO336.out) (Kd.R_base ho0) hb) (an (Kd.R_below (by exact Kd.R_nw HO345.out) hb) (an (Kd.R_lower (Kd.R_new' ho0 (Kd.R_lt (by exact Kd.R_nw HO336.out))) (below_size (by exact bel0))) (an (blk_below (blk_nw BK330.out) hb) (an (blk_below (blk_nw BK331.out) hb) (an (blk_below (blk_nw BK355.out) hb) (an (below_step (by exact bel0) hb) (trivial)))))))
            clear HO336 HO345 BK330 BK331 BK355 HB
            obtain ⟨HO336, HO345, HO348, BK330, BK331, BK355, HB, -⟩ := n_
            (try clear hb)
            (try clear hb2)
            (try clear hk)
            (try clear hi)
            (try clear ho0)
            refine hK.out _ _ ⟨(blk_cell BK330.out 0).trans rfl, (blk_cell BK330.out 1).trans rfl, (blk_cell BK330.out 2).trans rfl, (blk_cell BK330.out 3).trans rfl, (blk_cell BK330.out 4).trans rfl, (blk_cell BK330.out 5).trans rfl, (blk_cell BK331.out 0).trans rfl, (blk_cell BK331.out 1).trans rfl⟩ (fun hHeld => ?_)
            clear hK K
            refine norm_ (a' := ?_) ?_ ?_
            rotate_left
            · show Act.put _ (some 32) _ = _
              simp only [Act.put, List.setIfInBounds_toArray, List.set_cons_zero, List.set_cons_succ, i64_w, i32_w]
              rfl
            refine pure_ (i := 5) (N := some 27) (v := ?_) (a' := ?_) #[true, true, true, true, true, true, false, false, true, false, false] rfl rfl (any_of HT_.out (by kernel_rfl)) (fun _ _ _ h => h) (Or.inl ⟨by rfl, ?_⟩) ?_ ?_
            rotate_left
            · intro w'
              go_simp
              with_reducible rfl
            rotate_left
            · simp only [Act.put, List.setIfInBounds_toArray, List.set_cons_zero, List.set_cons_succ, i64_w, i32_w]
              rfl
            refine pure_ (i := 6) (N := some 33) (v := ?_) (a' := ?_) #[true, true, true, true, true, true, true, false, true, false, false] rfl rfl (any_of HT_.out (by kernel_rfl)) (fun _ _ _ h => h) (Or.inl ⟨by rfl, ?_⟩) ?_ ?_
            rotate_left
            · intro w'
              go_simp
              with_reducible rfl
            rotate_left
            · simp only [Act.put, List.setIfInBounds_toArray, List.set_cons_zero, List.set_cons_succ, i64_w, i32_w]
              rfl
            refine pure_ (i := 7) (N := some 34) (v := ?_) (a' := ?_) #[true, true, true, true, true, true, true, true, true, false, false] rfl rfl (any_of HT_.out (by kernel_rfl)) (fun _ _ _ h => h) (Or.inl ⟨by rfl, ?_⟩) ?_ ?_
            rotate_left
            · intro w'
              go_simp
              with_reducible rfl
            rotate_left
            · simp only [Act.put, List.setIfInBounds_toArray, List.set_cons_zero, List.set_cons_succ, i64_w, i32_w]
              rfl
            exact norm_ (by simp only [putAll, Act.put, List.setIfInBounds_toArray, List.set_cons_zero, List.set_cons_succ]) (hCont (.slice Ao26 t334.length co26, .slice Ao27 t343.length co27, v347, gb355) _ ⟨hHeld, (by exact Kd.R_nw (Kd.R_mono HO336.out (fun _ hk => hk.2))), (by exact Kd.R_nw HO345.out), (by exact Kd.R_nw (Kd.R_mono HO348.out (fun _ hk => hk.2))), (by exact blk_nw BK330.out), (by exact blk_nw BK331.out), (by exact blk_nw BK355.out), GW355.out, GE355.out, NB330_355.out, NB355_330.out, NB331_355.out, NB355_331.out, (by exact bel0)⟩)
        · skip
          refine box_step ?hg (N := 6) ?hd (cs := #[.slice none 0 0, .int .i64 0, .int .i64 0, .int .i64 0, .int .i64 0, .int .i64 0]) (t := 90) ?hr ?_; (case hd => rfl); (case hg => rfl); (case hr => first | (go_simp; done) | (go_simp; rfl))
          intro gb355 hg w23 hbox hb
          have n_ := an (blk_below (blk_nw BK330.out) hb) (an (blk_below (blk_nw BK331.out) hb) (an (below_step (by exact bel0) hb) (an (hbox) (an ((by rw [hg]; exact (below_size (by exact bel0)) : w.heap.size ≤ gb355)) (an ((by rw [hg]; exact (below_size (by exact bel0)) : w.heap.size ≤ gb355)) (an ((by rw [hg]; exact Nat.ne_of_lt (blk_lt (blk_nw BK330.out)) : gb330 ≠ gb355)) (an ((by rw [hg]; exact Nat.ne_of_gt (blk_lt (blk_nw BK330.out)) : gb355 ≠ gb330)) (an ((by rw [hg]; exact Nat.ne_of_lt (blk_lt (blk_nw BK331.out)) : gb331 ≠ gb355)) (an ((by rw [hg]; exact Nat.ne_of_gt (blk_lt (blk_nw BK331.out)) : gb355 ≠ gb331)) (trivial))))))))))
          clear BK330 BK331 HB
          obtain ⟨BK330, BK331, HB, BK355, GW355, GE355, NB330_355, NB355_330, NB331_355, NB355_331, -⟩ := n_
          clear hb hbox hg
          refine hK.out _ _ ⟨(blk_cell BK330.out 0).trans rfl, (blk_cell BK330.out 1).trans rfl, (blk_cell BK330.out 2).trans rfl, (blk_cell BK330.out 3).trans rfl, (blk_cell BK330.out 4).trans rfl, (blk_cell BK330.out 5).trans rfl, (blk_cell BK331.out 0).trans rfl, (blk_cell BK331.out 1).trans rfl⟩ (fun hHeld => ?_)
          clear hK K
          refine norm_ (a' := ?_) ?_ ?_
          rotate_left
          · show Act.put _ (some 6) _ = _
            simp only [Act.put, List.setIfInBounds_toArray, List.set_cons_zero, List.set_cons_succ, i64_w, i32_w]
            rfl
          refine one_ (i := 1) (N := some 29) #[true, true, true, false, false, false, false, false, true, false, false] rfl rfl (one_of HT_.out (by kernel_rfl)) (by decide) (fun K hK => ?_)
          refine goes_ Try.func58 (by kernel_rfl) rfl #[.agg #[.slice A0_0 l0_0.length c0_0, .int .i64 a0_1, .int .i64 a0_2, .int .i64 a0_3, .int .i64 a0_4, .int .i64 a0_5]] (by rfl) rfl rfl (by (try simp only [List.map_toArray, List.map_cons, List.map_nil]); first | done | rfl | (simp only [List.length_drop, List.length_take]; rfl)) ?_
          with_reducible refine (laws_toProber.calls k _ _ l0_0 a0_1 a0_2 a0_3 a0_4 a0_5 t334 t337 t338 t339 t340 t341 _ ?side1 ?side2 A15.out).mono ?_
          (case side1 => repeat (first | exact (Kd.C_below HR0_0.out HB.out) | (with_reducible refine Kd.C_alloc ?_ _) | (with_reducible refine Kd.C_drewN ?_ _) | (with_reducible refine Kd.C_drew ?_)))
          (case side2 => exact HC0_0.out)
          rintro e w24 ⟨v335, rfl, ho0, hb⟩
          refine ⟨_, rfl, ?_⟩
          have n_ := an (Kd.R_lower ho0 (below_size (by exact bel0))) (an (blk_below (blk_nw BK330.out) hb) (an (blk_below (blk_nw BK331.out) hb) (an (blk_below (blk_nw BK355.out) hb) (an (below_step (by exact bel0) hb) (trivial)))))
          clear BK330 BK331 BK355 HB
          obtain ⟨HO336, BK330, BK331, BK355, HB, -⟩ := n_
          (try clear hb)
          (try clear hb2)
          (try clear hk)
          (try clear hi)
          (try clear ho0)
          refine hK.out _ _ ⟨(blk_cell BK330.out 0).trans rfl, (blk_cell BK330.out 1).trans rfl, (blk_cell BK330.out 2).trans rfl, (blk_cell BK330.out 3).trans rfl, (blk_cell BK330.out 4).trans rfl, (blk_cell BK330.out 5).trans rfl, (blk_cell BK331.out 0).trans rfl, (blk_cell BK331.out 1).trans rfl⟩ (fun hHeld => ?_)
          clear hK K
          refine norm_ (a' := ?_) ?_ ?_
          rotate_left
          · show Act.put _ (some 29) _ = _
            simp only [Act.put, List.setIfInBounds_toArray, List.set_cons_zero, List.set_cons_succ, i64_w, i32_w]
            rfl
          refine one_ (i := 3) (N := some 31) #[true, true, true, true, false, false, false, false, true, false, false] rfl rfl (one_of HT_.out (by kernel_rfl)) (by decide) (fun K hK => ?_)
          refine goes_ Try.func25 (by kernel_rfl) rfl #[.agg #[.int .i64 a1_0, .slice A1_1 l1_1.length c1_1]] (by rfl) rfl rfl (by (try simp only [List.map_toArray, List.map_cons, List.map_nil]); first | done | rfl | (simp only [List.length_drop, List.length_take]; rfl)) ?_
          with_reducible refine (laws_toTable.calls k a1_0 _ _ l1_1 t342 t343 _ ?side1 ?side2 A16.out).mono ?_
          (case side1 => repeat (first | exact (Kd.C_below HR1_1.out HB.out) | (with_reducible refine Kd.C_alloc ?_ _) | (with_reducible refine Kd.C_drewN ?_ _) | (with_reducible refine Kd.C_drew ?_)))
          (case side2 => exact HC1_1.out)
          rintro e w25 ⟨v344, rfl, ho0, hb⟩
          refine ⟨_, rfl, ?_⟩
          have n_ := an (Kd.R_below (by exact Kd.R_nw HO336.out) hb) (an (Kd.R_lower ho0 (below_size (by exact bel0))) (an (blk_below (blk_nw BK330.out) hb) (an (blk_below (blk_nw BK331.out) hb) (an (blk_below (blk_nw BK355.out) hb) (an (below_step (by exact bel0) hb) (trivial))))))
          clear HO336 BK330 BK331 BK355 HB
          obtain ⟨HO336, HO345, BK330, BK331, BK355, HB, -⟩ := n_
          (try clear hb)
          (try clear hb2)
          (try clear hk)
          (try clear hi)
          (try clear ho0)
          obtain ⟨Ao26, co26, eo26⟩ := Kd.R_slice HO336.out
          (first | subst eo26 | (injection eo26 with f1_ f2_ f3_; have f4_ := f1_.symm; have f5_ := f3_.symm; clear f1_ f2_ f3_; subst f4_; subst f5_))
          obtain ⟨Ao27, co27, eo27⟩ := Kd.R_slice HO345.out
          (first | subst eo27 | (injection eo27 with f1_ f2_ f3_; have f4_ := f1_.symm; have f5_ := f3_.symm; clear f1_ f2_ f3_; subst f4_; subst f5_))
          refine hK.out _ _ ⟨(blk_cell BK330.out 0).trans rfl, (blk_cell BK330.out 1).trans rfl, (blk_cell BK330.out 2).trans rfl, (blk_cell BK330.out 3).trans rfl, (blk_cell BK330.out 4).trans rfl, (blk_cell BK330.out 5).trans rfl, (blk_cell BK331.out 0).trans rfl, (blk_cell BK331.out 1).trans rfl⟩ (fun hHeld => ?_)
          clear hK K
          refine norm_ (a' := ?_) ?_ ?_
          rotate_left
          · show Act.put _ (some 31) _ = _
            simp only [Act.put, List.setIfInBounds_toArray, List.set_cons_zero, List.set_cons_succ, i64_w, i32_w]
            rfl
          refine one_ (i := 4) (N := some 32) #[true, true, true, true, true, false, false, false, true, false, false] rfl rfl (one_of HT_.out (by kernel_rfl)) (by decide) (fun K hK => ?_)
          refine goes_ Try.func63 (by kernel_rfl) rfl #[.agg #[.slice Ao26 t334.length co26, .int .i64 t337, .int .i64 t338, .int .i64 t339, .int .i64 t340, .int .i64 t341], .agg #[.int .i64 t342, .slice Ao27 t343.length co27]] (by rfl) rfl rfl (by (try simp only [List.map_toArray, List.map_cons, List.map_nil]); first | done | rfl | (simp only [List.length_drop, List.length_take]; rfl)) ?_
          with_reducible refine (spec_NextProbe.calls k _ _ t334 t337 t338 t339 t340 t341 t342 _ _ t343 t346 t349 t350 t351 t352 t353 t354 _ ?side1 ?side2 ?side3 ?side4 A17.out).mono ?_
          (case side1 => repeat (first | exact (Kd.R_reads' HO336.out).2.2 | (with_reducible refine Kd.C_alloc ?_ _) | (with_reducible refine Kd.C_drewN ?_ _) | (with_reducible refine Kd.C_drew ?_)))
          (case side2 => exact (Kd.R_reads' HO336.out).2.1)
          (case side3 => repeat (first | exact (Kd.R_reads' HO345.out).2.2 | (with_reducible refine Kd.C_alloc ?_ _) | (with_reducible refine Kd.C_drewN ?_ _) | (with_reducible refine Kd.C_drew ?_)))
          (case side4 => exact (Kd.R_reads' HO345.out).2.1)
          rintro e w28 ⟨v347, rfl, ho0, hb⟩
          refine ⟨_, rfl, ?_⟩
          have n_ := an (Kd.R_elder' (by exact Kd.R_nw HO336.out) (Kd.R_base ho0) hb) (an (Kd.R_below (by exact Kd.R_nw HO345.out) hb) (an (Kd.R_lower (Kd.R_new' ho0 (Kd.R_lt (by exact Kd.R_nw HO336.out))) (below_size (by exact bel0))) (an (blk_below (blk_nw BK330.out) hb) (an (blk_below (blk_nw BK331.out) hb) (an (blk_below (blk_nw BK355.out) hb) (an (below_step (by exact bel0) hb) (trivial)))))))
          clear HO336 HO345 BK330 BK331 BK355 HB
          obtain ⟨HO336, HO345, HO348, BK330, BK331, BK355, HB, -⟩ := n_
          (try clear hb)
          (try clear hb2)
          (try clear hk)
          (try clear hi)
          (try clear ho0)
          refine hK.out _ _ ⟨(blk_cell BK330.out 0).trans rfl, (blk_cell BK330.out 1).trans rfl, (blk_cell BK330.out 2).trans rfl, (blk_cell BK330.out 3).trans rfl, (blk_cell BK330.out 4).trans rfl, (blk_cell BK330.out 5).trans rfl, (blk_cell BK331.out 0).trans rfl, (blk_cell BK331.out 1).trans rfl⟩ (fun hHeld => ?_)
          clear hK K
          refine norm_ (a' := ?_) ?_ ?_
          rotate_left
          · show Act.put _ (some 32) _ = _
            simp only [Act.put, List.setIfInBounds_toArray, List.set_cons_zero, List.set_cons_succ, i64_w, i32_w]
            rfl
          refine pure_ (i := 5) (N := some 27) (v := ?_) (a' := ?_) #[true, true, true, true, true, true, false, false, true, false, false] rfl rfl (any_of HT_.out (by kernel_rfl)) (fun _ _ _ h => h) (Or.inl ⟨by rfl, ?_⟩) ?_ ?_
          rotate_left
          · intro w'
            go_simp
            with_reducible rfl
          rotate_left
          · simp only [Act.put, List.setIfInBounds_toArray, List.set_cons_zero, List.set_cons_succ, i64_w, i32_w]
            rfl
          refine pure_ (i := 6) (N := some 33) (v := ?_) (a' := ?_) #[true, true, true, true, true, true, true, false, true, false, false] rfl rfl (any_of HT_.out (by kernel_rfl)) (fun _ _ _ h => h) (Or.inl ⟨by rfl, ?_⟩) ?_ ?_
          rotate_left
          · intro w'
            go_simp
            with_reducible rfl
          rotate_left
          · simp only [Act.put, List.setIfInBounds_toArray, List.set_cons_zero, List.set_cons_succ, i64_w, i32_w]
            rfl
          refine pure_ (i := 7) (N := some 34) (v := ?_) (a' := ?_) #[true, true, true, true, true, true, true, true, true, false, false] rfl rfl (any_of HT_.out (by kernel_rfl)) (fun _ _ _ h => h) (Or.inl ⟨by rfl, ?_⟩) ?_ ?_
          rotate_left
          · intro w'
            go_simp
            with_reducible rfl
          rotate_left
          · simp only [Act.put, List.setIfInBounds_toArray, List.set_cons_zero, List.set_cons_succ, i64_w, i32_w]
            rfl
          exact norm_ (by simp only [putAll, Act.put, List.setIfInBounds_toArray, List.set_cons_zero, List.set_cons_succ]) (hCont (.slice Ao26 t334.length co26, .slice Ao27 t343.length co27, v347, gb355) _ ⟨hHeld, (by exact Kd.R_nw (Kd.R_mono HO336.out (fun _ hk => hk.2))), (by exact Kd.R_nw HO345.out), (by exact Kd.R_nw (Kd.R_mono HO348.out (fun _ hk => hk.2))), (by exact blk_nw BK330.out), (by exact blk_nw BK331.out), (by exact blk_nw BK355.out), GW355.out, GE355.out, NB330_355.out, NB355_330.out, NB331_355.out, NB355_331.out, (by exact bel0)⟩)
      rintro ⟨v335, v344, v347, gb355⟩ w29 ⟨hS_, h0_, h1_, h2_, h3_, h4_, h5_, h6_, h7_, h8_, h9_, h10_, h11_, h12_⟩
      have n0_ : Aside0 (Kd.R (Kd.int .i64) 3 w29 w.heap.size (fun k_ => some k_ ≠ (v347 : Value).ownBlock) v335 t334) := ⟨h0_⟩
      have n1_ : Aside0 (Kd.R k82 82 w29 w.heap.size (fun _ => True) v344 t343) := ⟨h1_⟩
      have n2_ : Aside0 (Kd.R (Kd.int .i64) 3 w29 w.heap.size (fun k_ => some k_ ≠ (v335 : Value).ownBlock) v347 t346) := ⟨h2_⟩
      have n3_ : Aside0 (w29.heap[gb330]? = some (.cells #[.slice A0_0 l0_0.length c0_0, .int .i64 a0_1, .int .i64 a0_2, .int .i64 a0_3, .int .i64 a0_4, .int .i64 a0_5] 88 (0, 0))) := ⟨h3_⟩
      have n4_ : Aside0 (w29.heap[gb331]? = some (.cells #[.int .i64 a1_0, .slice A1_1 l1_1.length c1_1] 37 (0, 0))) := ⟨h4_⟩
      have n5_ : Aside0 (w29.heap[gb355]? = some (.cells #[.slice none 0 0, .int .i64 0, .int .i64 0, .int .i64 0, .int .i64 0, .int .i64 0] 90 (0, 0))) := ⟨h5_⟩
      have n6_ : Aside0 (w.heap.size ≤ gb355) := ⟨h6_⟩
      have n7_ : Aside0 (w.heap.size ≤ gb355) := ⟨h7_⟩
      have n8_ : Aside0 (gb330 ≠ gb355) := ⟨h8_⟩
      have n9_ : Aside0 (gb355 ≠ gb330) := ⟨h9_⟩
      have n10_ : Aside0 (gb331 ≠ gb355) := ⟨h10_⟩
      have n11_ : Aside0 (gb355 ≠ gb331) := ⟨h11_⟩
      have n12_ : Aside0 (Below w.heap.size w w29) := ⟨h12_⟩
      clear BK330
      clear BK331
      clear HB
      clear h0_ h1_ h2_ h3_ h4_ h5_ h6_ h7_ h8_ h9_ h10_ h11_ h12_
      have HO336 := n0_
      have HO345 := n1_
      have HO348 := n2_
      have BK330 := n3_
      have BK331 := n4_
      have BK355 := n5_
      have GW355 := n6_
      have GE355 := n7_
      have NB330_355 := n8_
      have NB355_330 := n9_
      have NB331_355 := n10_
      have NB355_331 := n11_
      have HB := n12_
      clear n0_ n1_ n2_ n3_ n4_ n5_ n6_ n7_ n8_ n9_ n10_ n11_ n12_
      have hHeld : w29.cell? ⟨gb330, 0, none⟩ = some (.slice A0_0 l0_0.length c0_0) ∧ w29.cell? ⟨gb330, 1, none⟩ = some (.int .i64 a0_1) ∧ w29.cell? ⟨gb330, 2, none⟩ = some (.int .i64 a0_2) ∧ w29.cell? ⟨gb330, 3, none⟩ = some (.int .i64 a0_3) ∧ w29.cell? ⟨gb330, 4, none⟩ = some (.int .i64 a0_4) ∧ w29.cell? ⟨gb330, 5, none⟩ = some (.int .i64 a0_5) ∧ w29.cell? ⟨gb331, 0, none⟩ = some (.int .i64 a1_0) ∧ w29.cell? ⟨gb331, 1, none⟩ = some (.slice A1_1 l1_1.length c1_1) := hS_
      obtain ⟨Ao30, co30, eo30⟩ := Kd.R_slice HO348.out
      (first | subst eo30 | (injection eo30 with f1_ f2_ f3_; have f4_ := f1_.symm; have f5_ := f3_.symm; clear f1_ f2_ f3_; subst f4_; subst f5_))
      refine norm_ (a' := ?_) ?_ ?_
      rotate_left
      · simp only [putAll, Act.put, List.setIfInBounds_toArray, List.set_cons_zero, List.set_cons_succ]
        rfl
      refine one_ (i := 9) (N := none) #[true, true, true, true, true, true, true, true, true, true, false] rfl rfl (one_of HT_.out (by kernel_rfl)) (by decide) (fun K hK => ?_)
      have hs31 : w29.cell? ⟨gb355, 0, none⟩ = some (.slice none 0 0) := (blk_cell BK355.out 0).trans rfl
      have hfs31 := blk_frozen BK355.out 0
      have hns31_0 := NB330_355.out
      have hns31_1 := NB331_355.out
      have hms31_0 := NB355_330.out
      have hms31_1 := NB355_331.out
      have hs32 : w29.cell? ⟨gb355, 1, none⟩ = some (.int .i64 0) := (blk_cell BK355.out 1).trans rfl
      have hfs32 := blk_frozen BK355.out 1
      have hns32_0 := NB330_355.out
      have hns32_1 := NB331_355.out
      have hms32_0 := NB355_330.out
      have hms32_1 := NB355_331.out
      have hs33 : w29.cell? ⟨gb355, 2, none⟩ = some (.int .i64 0) := (blk_cell BK355.out 2).trans rfl
      have hfs33 := blk_frozen BK355.out 2
      have hns33_0 := NB330_355.out
      have hns33_1 := NB331_355.out
      have hms33_0 := NB355_330.out
      have hms33_1 := NB355_331.out
      have hs34 : w29.cell? ⟨gb355, 3, none⟩ = some (.int .i64 0) := (blk_cell BK355.out 3).trans rfl
      have hfs34 := blk_frozen BK355.out 3
      have hns34_0 := NB330_355.out
      have hns34_1 := NB331_355.out
      have hms34_0 := NB355_330.out
      have hms34_1 := NB355_331.out
      have hs35 : w29.cell? ⟨gb355, 4, none⟩ = some (.int .i64 0) := (blk_cell BK355.out 4).trans rfl
      have hfs35 := blk_frozen BK355.out 4
      have hns35_0 := NB330_355.out
      have hns35_1 := NB331_355.out
      have hms35_0 := NB355_330.out
      have hms35_1 := NB355_331.out
      have hs36 : w29.cell? ⟨gb355, 5, none⟩ = some (.int .i64 0) := (blk_cell BK355.out 5).trans rfl
      have hfs36 := blk_frozen BK355.out 5
      have hns36_0 := NB330_355.out
      have hns36_1 := NB331_355.out
      have hms36_0 := NB355_330.out
      have hms36_1 := NB355_331.out
      refine skip_ (w1 := ?_) (by rfl) rfl ?_ ?_
      rotate_left
      · go_simp
        rfl
      refine hK.out _ _ ⟨((cell_far (p := ⟨gb355, _, none⟩) NB330_355.out _).trans (((cell_far (p := ⟨gb355, _, none⟩) NB330_355.out _).trans (((cell_far (p := ⟨gb355, _, none⟩) NB330_355.out _).trans (((cell_far (p := ⟨gb355, _, none⟩) NB330_355.out _).trans (((cell_far (p := ⟨gb355, _, none⟩) NB330_355.out _).trans (((cell_far (p := ⟨gb355, _, none⟩) NB330_355.out _).trans (hHeld.1)))))))))))), ((cell_far (p := ⟨gb355, _, none⟩) NB330_355.out _).trans (((cell_far (p := ⟨gb355, _, none⟩) NB330_355.out _).trans (((cell_far (p := ⟨gb355, _, none⟩) NB330_355.out _).trans (((cell_far (p := ⟨gb355, _, none⟩) NB330_355.out _).trans (((cell_far (p := ⟨gb355, _, none⟩) NB330_355.out _).trans (((cell_far (p := ⟨gb355, _, none⟩) NB330_355.out _).trans (hHeld.2.1)))))))))))), ((cell_far (p := ⟨gb355, _, none⟩) NB330_355.out _).trans (((cell_far (p := ⟨gb355, _, none⟩) NB330_355.out _).trans (((cell_far (p := ⟨gb355, _, none⟩) NB330_355.out _).trans (((cell_far (p := ⟨gb355, _, none⟩) NB330_355.out _).trans (((cell_far (p := ⟨gb355, _, none⟩) NB330_355.out _).trans (((cell_far (p := ⟨gb355, _, none⟩) NB330_355.out _).trans (hHeld.2.2.1)))))))))))), ((cell_far (p := ⟨gb355, _, none⟩) NB330_355.out _).trans (((cell_far (p := ⟨gb355, _, none⟩) NB330_355.out _).trans (((cell_far (p := ⟨gb355, _, none⟩) NB330_355.out _).trans (((cell_far (p := ⟨gb355, _, none⟩) NB330_355.out _).trans (((cell_far (p := ⟨gb355, _, none⟩) NB330_355.out _).trans (((cell_far (p := ⟨gb355, _, none⟩) NB330_355.out _).trans (hHeld.2.2.2.1)))))))))))), ((cell_far (p := ⟨gb355, _, none⟩) NB330_355.out _).trans (((cell_far (p := ⟨gb355, _, none⟩) NB330_355.out _).trans (((cell_far (p := ⟨gb355, _, none⟩) NB330_355.out _).trans (((cell_far (p := ⟨gb355, _, none⟩) NB330_355.out _).trans (((cell_far (p := ⟨gb355, _, none⟩) NB330_355.out _).trans (((cell_far (p := ⟨gb355, _, none⟩) NB330_355.out _).trans (hHeld.2.2.2.2.1)))))))))))), ((cell_far (p := ⟨gb355, _, none⟩) NB330_355.out _).trans (((cell_far (p := ⟨gb355, _, none⟩) NB330_355.out _).trans (((cell_far (p := ⟨gb355, _, none⟩) NB330_355.out _).trans (((cell_far (p := ⟨gb355, _, none⟩) NB330_355.out _).trans (((cell_far (p := ⟨gb355, _, none⟩) NB330_355.out _).trans (((cell_far (p := ⟨gb355, _, none⟩) NB330_355.out _).trans (hHeld.2.2.2.2.2.1)))))))))))), ((cell_far (p := ⟨gb355, _, none⟩) NB331_355.out _).trans (((cell_far (p := ⟨gb355, _, none⟩) NB331_355.out _).trans (((cell_far (p := ⟨gb355, _, none⟩) NB331_355.out _).trans (((cell_far (p := ⟨gb355, _, none⟩) NB331_355.out _).trans (((cell_far (p := ⟨gb355, _, none⟩) NB331_355.out _).trans (((cell_far (p := ⟨gb355, _, none⟩) NB331_355.out _).trans (hHeld.2.2.2.2.2.2.1)))))))))))), ((cell_far (p := ⟨gb355, _, none⟩) NB331_355.out _).trans (((cell_far (p := ⟨gb355, _, none⟩) NB331_355.out _).trans (((cell_far (p := ⟨gb355, _, none⟩) NB331_355.out _).trans (((cell_far (p := ⟨gb355, _, none⟩) NB331_355.out _).trans (((cell_far (p := ⟨gb355, _, none⟩) NB331_355.out _).trans (((cell_far (p := ⟨gb355, _, none⟩) NB331_355.out _).trans (hHeld.2.2.2.2.2.2.2))))))))))))⟩ (fun hHeld => ?_)
      clear hK K
      refine pure_ (i := 10) (N := some 7) (v := ?_) (a' := ?_) #[true, true, true, true, true, true, true, true, true, true, true] rfl rfl (any_of HT_.out (by kernel_rfl)) (fun _ _ _ h => h) (Or.inl ⟨by rfl, ?_⟩) ?_ ?_
      rotate_left
      · intro w'
        go_simp
        with_reducible rfl
      rotate_left
      · simp only [Act.put, List.setIfInBounds_toArray, List.set_cons_zero, List.set_cons_succ, i64_w, i32_w]
        rfl
      refine done_ (done_of HT_.out (by kernel_rfl)) ?_
      have hnb37 := NB330_331.out
      have hnc37 := NB331_330.out
      have hnb38 := NB330_355.out
      have hnc38 := NB355_330.out
      obtain ⟨hcz39_0, hcz39_1, hcz39_2, hcz39_3, hcz39_4, hcz39_5⟩ := blkz6 BK330.out
      have hfz39_0 := blkf BK330.out
      go_upto_region 12 with (first | ((with_reducible refine gate_callee (f := 58) rfl ?_); refine goesL_ (some 36) rfl rfl Try.func58 (by kernel_rfl) rfl #[.agg #[.slice A0_0 l0_0.length c0_0, .int .i64 a0_1, .int .i64 a0_2, .int .i64 a0_3, .int .i64 a0_4, .int .i64 a0_5]] rfl (by (try simp only [List.map_toArray, List.map_cons, List.map_nil]); first | done | rfl | (simp only [List.length_drop, List.length_take]; rfl)) ?_; (with_reducible refine (laws_toProber.calls k _ _ l0_0 a0_1 a0_2 a0_3 a0_4 a0_5 t356 t359 t360 t361 t362 t363 _ ?side1 ?side2 A18.out).mono ?_); (case side1 => exact Kd.C_below HR0_0.out (by exact bel0)); (case side2 => exact HC0_0.out); rintro e w40 ⟨v357, rfl, ho0, hb⟩; refine ⟨_, rfl, ?_⟩; have n_ := an (Kd.R_elder' (by exact (Kd.R_farN HO336.out BK355.out)) (Kd.R_base ho0) hb) (an (Kd.R_below (by exact (Kd.R_farN HO345.out BK355.out)) hb) (an (Kd.R_elder' (by exact (Kd.R_farN HO348.out BK355.out)) (Kd.R_base ho0) hb) (an (Kd.R_lower (Kd.R_new' (Kd.R_new' ho0 (Kd.R_lt (by exact (Kd.R_farN HO336.out BK355.out)))) (Kd.R_lt (by exact (Kd.R_farN HO348.out BK355.out)))) (below_size (by exact bel0))) (an (blk_below (blk_kb BK330.out NB330_355.out) hb) (an (blk_below (blk_kb BK331.out NB331_355.out) hb) (an (blk_below (g := gb355) (o := .cells #[.slice Ao30 t346.length co30, .int .i64 t349, .int .i64 t350, .int .i64 t351, .int .i64 t352, .int .i64 t353] 90 (0, 0)) (by (with_reducible repeat (first | refine blk_drewN ?_ _ | refine blk_drew ?_ | refine blk_alloc ?_ _)); exact blk_fill6 BK355.out) hb) (an (below_step (by exact bel0) hb) (trivial)))))))); clear HO336 HO345 HO348 BK330 BK331 BK355 HB; obtain ⟨HO336, HO345, HO348, HO358, BK330, BK331, BK355, HB, -⟩ := n_; (try clear hb); (try clear hb2); (try clear hk); (try clear hi); (try clear ho0)) | ((with_reducible refine gate_dst (N := 8) rfl ?_); refine box_event ?hg (N := 8) ?hd (cs := #[.slice none 0 0, .int .i64 0, .int .i64 0, .int .i64 0, .int .i64 0, .int .i64 0]) (t := 90) ?hr ?_; (case hd => rfl); (case hg => rfl); (case hr => first | (go_simp; done) | (go_simp; rfl)); intro gb364 hg w41 hbox hb; have n_ := an (Kd.R_below (by exact Kd.R_nw HO336.out) hb) (an (Kd.R_below (by exact Kd.R_nw HO345.out) hb) (an (Kd.R_below (by exact Kd.R_nw HO348.out) hb) (an (Kd.R_below (by exact Kd.R_nw HO358.out) hb) (an (blk_below (blk_nw BK330.out) hb) (an (blk_below (blk_nw BK331.out) hb) (an (blk_below (blk_nw BK355.out) hb) (an (below_step (by exact bel0) hb) (an (hbox) (an ((by rw [hg]; exact (below_size (by exact bel0)) : w.heap.size ≤ gb364)) (an ((by rw [hg]; exact (below_size (by exact bel0)) : w.heap.size ≤ gb364)) (an ((by rw [hg]; exact Nat.ne_of_lt (blk_lt (blk_nw BK330.out)) : gb330 ≠ gb364)) (an ((by rw [hg]; exact Nat.ne_of_gt (blk_lt (blk_nw BK330.out)) : gb364 ≠ gb330)) (an ((by rw [hg]; exact Nat.ne_of_lt (blk_lt (blk_nw BK331.out)) : gb331 ≠ gb364)) (an ((by rw [hg]; exact Nat.ne_of_gt (blk_lt (blk_nw BK331.out)) : gb364 ≠ gb331)) (an ((by rw [hg]; exact Nat.ne_of_lt (blk_lt (blk_nw BK355.out)) : gb355 ≠ gb364)) (an ((by rw [hg]; exact Nat.ne_of_gt (blk_lt (blk_nw BK355.out)) : gb364 ≠ gb355)) (trivial))))))))))))))))); clear HO336 HO345 HO348 HO358 BK330 BK331 BK355 HB; obtain ⟨HO336, HO345, HO348, HO358, BK330, BK331, BK355, HB, BK364, GW364, GE364, NB330_364, NB364_330, NB331_364, NB364_331, NB355_364, NB364_355, -⟩ := n_; clear hb hbox hg; obtain ⟨Ao42, co42, eo42⟩ := Kd.R_slice HO358.out; subst eo42; have hnb43 := NB364_330.out; have hnc43 := NB330_364.out; have hnb44 := NB364_331.out; have hnc44 := NB331_364.out; have hnb45 := NB364_355.out; have hnc45 := NB355_364.out; obtain ⟨hcz46_0, hcz46_1, hcz46_2, hcz46_3, hcz46_4, hcz46_5⟩ := blkz6 BK364.out; have hfz46_0 := blkf BK364.out; have hnb47 := NB331_355.out; have hnc47 := NB355_331.out; obtain ⟨hcz48_0, hcz48_1⟩ := blkz2 BK331.out; have hfz48_0 := blkf BK331.out) | ((with_reducible refine gate_callee (f := 25) rfl ?_); refine goesL_ (some 38) rfl rfl Try.func25 (by kernel_rfl) rfl #[.agg #[.int .i64 a1_0, .slice A1_1 l1_1.length c1_1]] rfl (by (try simp only [List.map_toArray, List.map_cons, List.map_nil]); first | done | rfl | (simp only [List.length_drop, List.length_take]; rfl)) ?_; (with_reducible refine (laws_toTable.calls k a1_0 _ _ l1_1 t365 t366 _ ?side1 ?side2 A19.out).mono ?_); (case side1 => exact Kd.C_below HR1_1.out (by exact bel0)); (case side2 => exact HC1_1.out); rintro e w49 ⟨v367, rfl, ho0, hb⟩; refine ⟨_, rfl, ?_⟩; have n_ := an (Kd.R_below (by exact (Kd.R_farN HO336.out BK364.out)) hb) (an (Kd.R_elder' (by exact (Kd.R_farN HO345.out BK364.out)) (Kd.R_base ho0) hb) (an (Kd.R_below (by exact (Kd.R_farN HO348.out BK364.out)) hb) (an (Kd.R_below (by exact (Kd.R_farN HO358.out BK364.out)) hb) (an (Kd.R_lower (Kd.R_new' ho0 (Kd.R_lt (by exact (Kd.R_farN HO345.out BK364.out)))) (below_size (by exact bel0))) (an (blk_below (blk_kb BK330.out NB330_364.out) hb) (an (blk_below (blk_kb BK331.out NB331_364.out) hb) (an (blk_below (blk_kb BK355.out NB355_364.out) hb) (an (blk_below (g := gb364) (o := .cells #[.slice Ao42 t356.length co42, .int .i64 t359, .int .i64 t360, .int .i64 t361, .int .i64 t362, .int .i64 t363] 90 (0, 0)) (by (with_reducible repeat (first | refine blk_drewN ?_ _ | refine blk_drew ?_ | refine blk_alloc ?_ _)); exact blk_fill6 BK364.out) hb) (an (below_step (by exact bel0) hb) (trivial)))))))))); clear HO336 HO345 HO348 HO358 BK330 BK331 BK355 BK364 HB; obtain ⟨HO336, HO345, HO348, HO358, HO368, BK330, BK331, BK355, BK364, HB, -⟩ := n_; (try clear hb); (try clear hb2); (try clear hk); (try clear hi); (try clear ho0)) | ((with_reducible refine gate_dst (N := 9) rfl ?_); refine box_event ?hg (N := 9) ?hd (cs := #[.int .i64 0, .slice none 0 0]) (t := 41) ?hr ?_; (case hd => rfl); (case hg => rfl); (case hr => first | (go_simp; done) | (go_simp; rfl)); intro gb369 hg w50 hbox hb; have n_ := an (Kd.R_below (by exact Kd.R_nw HO336.out) hb) (an (Kd.R_below (by exact Kd.R_nw HO345.out) hb) (an (Kd.R_below (by exact Kd.R_nw HO348.out) hb) (an (Kd.R_below (by exact Kd.R_nw HO358.out) hb) (an (Kd.R_below (by exact Kd.R_nw HO368.out) hb) (an (blk_below (blk_nw BK330.out) hb) (an (blk_below (blk_nw BK331.out) hb) (an (blk_below (blk_nw BK355.out) hb) (an (blk_below (blk_nw BK364.out) hb) (an (below_step (by exact bel0) hb) (an (hbox) (an ((by rw [hg]; exact (below_size (by exact bel0)) : w.heap.size ≤ gb369)) (an ((by rw [hg]; exact (below_size (by exact bel0)) : w.heap.size ≤ gb369)) (an ((by rw [hg]; exact Nat.ne_of_lt (blk_lt (blk_nw BK330.out)) : gb330 ≠ gb369)) (an ((by rw [hg]; exact Nat.ne_of_gt (blk_lt (blk_nw BK330.out)) : gb369 ≠ gb330)) (an ((by rw [hg]; exact Nat.ne_of_lt (blk_lt (blk_nw BK331.out)) : gb331 ≠ gb369)) (an ((by rw [hg]; exact Nat.ne_of_gt (blk_lt (blk_nw BK331.out)) : gb369 ≠ gb331)) (an ((by rw [hg]; exact Nat.ne_of_lt (blk_lt (blk_nw BK355.out)) : gb355 ≠ gb369)) (an ((by rw [hg]; exact Nat.ne_of_gt (blk_lt (blk_nw BK355.out)) : gb369 ≠ gb355)) (an ((by rw [hg]; exact Nat.ne_of_lt (blk_lt (blk_nw BK364.out)) : gb364 ≠ gb369)) (an ((by rw [hg]; exact Nat.ne_of_gt (blk_lt (blk_nw BK364.out)) : gb369 ≠ gb364)) (trivial))))))))))))))))))))); clear HO336 HO345 HO348 HO358 HO368 BK330 BK331 BK355 BK364 HB; obtain ⟨HO336, HO345, HO348, HO358, HO368, BK330, BK331, BK355, BK364, HB, BK369, GW369, GE369, NB330_369, NB369_330, NB331_369, NB369_331, NB355_369, NB369_355, NB364_369, NB369_364, -⟩ := n_; clear hb hbox hg; have hnb51 := NB369_330.out; have hnc51 := NB330_369.out; have hnb52 := NB369_331.out; have hnc52 := NB331_369.out; have hnb53 := NB369_355.out; have hnc53 := NB355_369.out; have hnb54 := NB369_364.out; have hnc54 := NB364_369.out; obtain ⟨hcz55_0, hcz55_1⟩ := blkz2 BK369.out; have hfz55_0 := blkf BK369.out; obtain ⟨Ao56, co56, eo56⟩ := Kd.R_slice HO368.out; subst eo56; obtain ⟨hcz57_0, hcz57_1, hcz57_2, hcz57_3, hcz57_4, hcz57_5⟩ := blkz6 BK364.out; have hfz57_0 := blkf BK364.out) | ((with_reducible refine gate_callee (f := 64) rfl ?_); refine goesL_ (some 42) rfl rfl Try.func64 (by kernel_rfl) rfl #[.agg #[.slice Ao42 t356.length co42, .int .i64 t359, .int .i64 t360, .int .i64 t361, .int .i64 t362, .int .i64 t363], .agg #[.int .i64 t365, .slice Ao56 t366.length co56]] rfl (by (try simp only [List.map_toArray, List.map_cons, List.map_nil]); first | done | rfl | (simp only [List.length_drop, List.length_take]; rfl)) ?_; (with_reducible refine (impl_NextProbe.calls k _ _ t356 t359 t360 t361 t362 t363 t365 _ _ t366 t370 t373 t374 t375 t376 t377 t378 _ ?side1 ?side2 ?side3 ?side4 A20.out).mono ?_); (case side1 => refine (Kd.R_reads' (e := 3) (base := w.heap.size) (ok := fun k_ => ((True ∧ some k_ ≠ (v335 : Value).ownBlock) ∧ some k_ ≠ (.slice Ao30 t346.length co30 : Value).ownBlock)) (n := t356.length) (c := co42) ?_).2.2; exact (by exact (Kd.R_farN HO358.out BK369.out))); (case side2 => exact (Kd.R_reads' HO358.out).2.1); (case side3 => refine (Kd.R_reads' (e := 82) (base := w.heap.size) (ok := fun k_ => (True ∧ some k_ ≠ (v344 : Value).ownBlock)) (n := t366.length) (c := co56) ?_).2.2; exact (by exact (Kd.R_farN HO368.out BK369.out))); (case side4 => exact (Kd.R_reads' HO368.out).2.1); rintro e w58 ⟨v371, rfl, ho0, hb⟩; refine ⟨_, rfl, ?_⟩; have n_ := an (Kd.R_elder' (by exact (Kd.R_farN HO336.out BK369.out)) (Kd.R_base ho0) hb) (an (Kd.R_below (by exact (Kd.R_farN HO345.out BK369.out)) hb) (an (Kd.R_elder' (by exact (Kd.R_farN HO348.out BK369.out)) (Kd.R_base ho0) hb) (an (Kd.R_elder' (by exact (Kd.R_farN HO358.out BK369.out)) (Kd.R_base ho0) hb) (an (Kd.R_below (by exact (Kd.R_farN HO368.out BK369.out)) hb) (an (Kd.R_lower (Kd.R_new' (Kd.R_new' (Kd.R_new' ho0 (Kd.R_lt (by exact (Kd.R_farN HO336.out BK369.out)))) (Kd.R_lt (by exact (Kd.R_farN HO348.out BK369.out)))) (Kd.R_lt (by exact (Kd.R_farN HO358.out BK369.out)))) (below_size (by exact bel0))) (an (blk_below (blk_kb BK330.out NB330_369.out) hb) (an (blk_below (blk_kb BK331.out NB331_369.out) hb) (an (blk_below (blk_kb BK355.out NB355_369.out) hb) (an (blk_below (blk_kb BK364.out NB364_369.out) hb) (an (blk_below (g := gb369) (o := .cells #[.int .i64 t365, .slice Ao56 t366.length co56] 41 (0, 0)) (by (with_reducible repeat (first | refine blk_drewN ?_ _ | refine blk_drew ?_ | refine blk_alloc ?_ _)); exact blk_fill2 BK369.out) hb) (an (below_step (by exact bel0) hb) (trivial)))))))))))); clear HO336 HO345 HO348 HO358 HO368 BK330 BK331 BK355 BK364 BK369 HB; obtain ⟨HO336, HO345, HO348, HO358, HO368, HO372, BK330, BK331, BK355, BK364, BK369, HB, -⟩ := n_; (try clear hb); (try clear hb2); (try clear hk); (try clear hi); (try clear ho0)) | ((with_reducible refine gate_dst (N := 10) rfl ?_); refine box_event ?hg (N := 10) ?hd (cs := #[.slice none 0 0, .int .i64 0, .int .i64 0, .int .i64 0, .int .i64 0, .int .i64 0]) (t := 90) ?hr ?_; (case hd => rfl); (case hg => rfl); (case hr => first | (go_simp; done) | (go_simp; rfl)); intro gb379 hg w59 hbox hb; have n_ := an (Kd.R_below (by exact Kd.R_nw HO336.out) hb) (an (Kd.R_below (by exact Kd.R_nw HO345.out) hb) (an (Kd.R_below (by exact Kd.R_nw HO348.out) hb) (an (Kd.R_below (by exact Kd.R_nw HO358.out) hb) (an (Kd.R_below (by exact Kd.R_nw HO368.out) hb) (an (Kd.R_below (by exact Kd.R_nw HO372.out) hb) (an (blk_below (blk_nw BK330.out) hb) (an (blk_below (blk_nw BK331.out) hb) (an (blk_below (blk_nw BK355.out) hb) (an (blk_below (blk_nw BK364.out) hb) (an (blk_below (blk_nw BK369.out) hb) (an (below_step (by exact bel0) hb) (an (hbox) (an ((by rw [hg]; exact (below_size (by exact bel0)) : w.heap.size ≤ gb379)) (an ((by rw [hg]; exact (below_size (by exact bel0)) : w.heap.size ≤ gb379)) (an ((by rw [hg]; exact Nat.ne_of_lt (blk_lt (blk_nw BK330.out)) : gb330 ≠ gb379)) (an ((by rw [hg]; exact Nat.ne_of_gt (blk_lt (blk_nw BK330.out)) : gb379 ≠ gb330)) (an ((by rw [hg]; exact Nat.ne_of_lt (blk_lt (blk_nw BK331.out)) : gb331 ≠ gb379)) (an ((by rw [hg]; exact Nat.ne_of_gt (blk_lt (blk_nw BK331.out)) : gb379 ≠ gb331)) (an ((by rw [hg]; exact Nat.ne_of_lt (blk_lt (blk_nw BK355.out)) : gb355 ≠ gb379)) (an ((by rw [hg]; exact Nat.ne_of_gt (blk_lt (blk_nw BK355.out)) : gb379 ≠ gb355)) (an ((by rw [hg]; exact Nat.ne_of_lt (blk_lt (blk_nw BK364.out)) : gb364 ≠ gb379)) (an ((by rw [hg]; exact Nat.ne_of_gt (blk_lt (blk_nw BK364.out)) : gb379 ≠ gb364)) (an ((by rw [hg]; exact Nat.ne_of_lt (blk_lt (blk_nw BK369.out)) : gb369 ≠ gb379)) (an ((by rw [hg]; exact Nat.ne_of_gt (blk_lt (blk_nw BK369.out)) : gb379 ≠ gb369)) (trivial))))))))))))))))))))))))); clear HO336 HO345 HO348 HO358 HO368 HO372 BK330 BK331 BK355 BK364 BK369 HB; obtain ⟨HO336, HO345, HO348, HO358, HO368, HO372, BK330, BK331, BK355, BK364, BK369, HB, BK379, GW379, GE379, NB330_379, NB379_330, NB331_379, NB379_331, NB355_379, NB379_355, NB364_379, NB379_364, NB369_379, NB379_369, -⟩ := n_; clear hb hbox hg; obtain ⟨Ao60, co60, eo60⟩ := Kd.R_slice HO372.out; subst eo60; have hnb61 := NB379_330.out; have hnc61 := NB330_379.out; have hnb62 := NB379_331.out; have hnc62 := NB331_379.out; have hnb63 := NB379_355.out; have hnc63 := NB355_379.out; have hnb64 := NB379_364.out; have hnc64 := NB364_379.out; have hnb65 := NB379_369.out; have hnc65 := NB369_379.out; obtain ⟨hcz66_0, hcz66_1, hcz66_2, hcz66_3, hcz66_4, hcz66_5⟩ := blkz6 BK379.out; have hfz66_0 := blkf BK379.out))
      (try simp only [Act.put, List.setIfInBounds_toArray, List.set_cons_zero, List.set_cons_succ])
      go_cut [53] (fun v53 wc => ∃ (kq : Nat) (x53_20 : Bool), v53 = .bool x53_20 ∧ Aside0 (laws_FnExactNextProbe.j0 kq t354 t378 x53_20 l0_0 a0_1 a0_2 a0_3 a0_4 a0_5 a1_0 l1_1 t346 t349 t350 t351 t352 t353 t356 t359 t360 t361 t362 t363 t365 t366 t370 t373 t374 t375 t376 t377 = some r) ∧ Aside0 (kq ≤ k) ∧ Aside0 (Kd.R (Kd.int .i64) 3 wc w.heap.size (fun k_ => some k_ ≠ ((.slice Ao42 t356.length co42) : Value).ownBlock ∧ some k_ ≠ ((.slice Ao60 t370.length co60) : Value).ownBlock) (.slice Ao30 t346.length co30) t346) ∧ Aside0 (Kd.R (Kd.int .i64) 3 wc w.heap.size (fun k_ => some k_ ≠ ((.slice Ao30 t346.length co30) : Value).ownBlock ∧ some k_ ≠ ((.slice Ao60 t370.length co60) : Value).ownBlock) (.slice Ao42 t356.length co42) t356) ∧ Aside0 (Kd.R k82 82 wc w.heap.size (fun _ => True) (.slice Ao56 t366.length co56) t366) ∧ Aside0 (Kd.R (Kd.int .i64) 3 wc w.heap.size (fun k_ => some k_ ≠ ((.slice Ao30 t346.length co30) : Value).ownBlock ∧ some k_ ≠ ((.slice Ao42 t356.length co42) : Value).ownBlock) (.slice Ao60 t370.length co60) t370) ∧ Aside0 (wc.heap[gb330]? = some (.cells #[(.slice A0_0 l0_0.length c0_0), .int .i64 a0_1, .int .i64 a0_2, .int .i64 a0_3, .int .i64 a0_4, .int .i64 a0_5] 88 (0, 0))) ∧ Aside0 (wc.heap[gb331]? = some (.cells #[.int .i64 a1_0, (.slice A1_1 l1_1.length c1_1)] 37 (0, 0))) ∧ Aside0 (wc.heap[gb355]? = some (.cells #[(.slice Ao30 t346.length co30), .int .i64 t349, .int .i64 t350, .int .i64 t351, .int .i64 t352, .int .i64 t353] 90 (0, 0))) ∧ Aside0 (wc.heap[gb364]? = some (.cells #[(.slice Ao42 t356.length co42), .int .i64 t359, .int .i64 t360, .int .i64 t361, .int .i64 t362, .int .i64 t363] 90 (0, 0))) ∧ Aside0 (wc.heap[gb369]? = some (.cells #[.int .i64 t365, (.slice Ao56 t366.length co56)] 41 (0, 0))) ∧ Aside0 (wc.heap[gb379]? = some (.cells #[(.slice Ao60 t370.length co60), .int .i64 t373, .int .i64 t374, .int .i64 t375, .int .i64 t376, .int .i64 t377] 90 (0, 0))) ∧ Aside0 (Below w.heap.size w wc))
      case first =>
        have H := HC21.out
        clear HC21
        replace H := Option.bind_eq_some_iff.mp H
        obtain ⟨t380, A670, H⟩ := H
        have A67 := Aside0.mk A670
        clear A670
        have hnb68 := NB379_330.out
        have hnc68 := NB330_379.out
        have hnb69 := NB379_331.out
        have hnc69 := NB331_379.out
        have hnb70 := NB379_355.out
        have hnc70 := NB355_379.out
        have hnb71 := NB379_364.out
        have hnc71 := NB364_379.out
        have hnb72 := NB379_369.out
        have hnc72 := NB369_379.out
        obtain ⟨hcz73_0, hcz73_1, hcz73_2, hcz73_3, hcz73_4, hcz73_5⟩ := blkz6 BK379.out
        have hfz73_0 := blkf BK379.out
        have hnb74 := NB355_330.out
        have hnc74 := NB330_355.out
        have hnb75 := NB355_331.out
        have hnc75 := NB331_355.out
        have hnb76 := NB355_364.out
        have hnc76 := NB364_355.out
        have hnb77 := NB355_369.out
        have hnc77 := NB369_355.out
        obtain ⟨hcz78_0, hcz78_1, hcz78_2, hcz78_3, hcz78_4, hcz78_5⟩ := blkz6 BK355.out
        have hfz78_0 := blkf BK355.out
        replace H := Aside0.mk H
        go_wp2_with (first | ((with_reducible refine gate_callee (f := 60) rfl ?_); refine goesL_ (some 47) rfl rfl Try.func60 (by kernel_rfl) rfl #[.agg #[.slice Ao60 t370.length co60, .int .i64 t373, .int .i64 t374, .int .i64 t375, .int .i64 t376, .int .i64 t377], .agg #[.slice Ao30 t346.length co30, .int .i64 t349, .int .i64 t350, .int .i64 t351, .int .i64 t352, .int .i64 t353]] rfl (by (try simp only [List.map_toArray, List.map_cons, List.map_nil]); first | done | rfl | (simp only [List.length_drop, List.length_take]; rfl)) ?_; (with_reducible refine (laws_eqProber.calls k _ _ t370 t373 t374 t375 t376 t377 _ _ t346 t349 t350 t351 t352 t353 t380 _ ?side1 ?side2 ?side3 ?side4 A67.out).mono ?_); (case side1 => refine (Kd.R_reads' (e := 3) (base := w.heap.size) (ok := fun k_ => (((True ∧ some k_ ≠ (v335 : Value).ownBlock) ∧ some k_ ≠ (.slice Ao30 t346.length co30 : Value).ownBlock) ∧ some k_ ≠ (.slice Ao42 t356.length co42 : Value).ownBlock)) (n := t370.length) (c := co60) ?_).2.2; exact (by exact (Kd.R_farN HO372.out BK379.out))); (case side2 => exact (Kd.R_reads' HO372.out).2.1); (case side3 => refine (Kd.R_reads' (e := 3) (base := w.heap.size) (ok := fun k_ => ((some k_ ≠ (v335 : Value).ownBlock ∧ some k_ ≠ (.slice Ao42 t356.length co42 : Value).ownBlock) ∧ some k_ ≠ (.slice Ao60 t370.length co60 : Value).ownBlock)) (n := t346.length) (c := co30) ?_).2.2; exact (by exact (Kd.R_farN HO348.out BK379.out))); (case side4 => exact (Kd.R_reads' HO348.out).2.1); rintro e w79 ⟨rfl, hb⟩; refine ⟨_, rfl, ?_⟩; have n_ := an (Kd.R_below (by exact (Kd.R_farN HO336.out BK379.out)) hb) (an (Kd.R_below (by exact (Kd.R_farN HO345.out BK379.out)) hb) (an (Kd.R_below (by exact (Kd.R_farN HO348.out BK379.out)) hb) (an (Kd.R_below (by exact (Kd.R_farN HO358.out BK379.out)) hb) (an (Kd.R_below (by exact (Kd.R_farN HO368.out BK379.out)) hb) (an (Kd.R_below (by exact (Kd.R_farN HO372.out BK379.out)) hb) (an (blk_below (blk_kb BK330.out NB330_379.out) hb) (an (blk_below (blk_kb BK331.out NB331_379.out) hb) (an (blk_below (blk_kb BK355.out NB355_379.out) hb) (an (blk_below (blk_kb BK364.out NB364_379.out) hb) (an (blk_below (blk_kb BK369.out NB369_379.out) hb) (an (blk_below (g := gb379) (o := .cells #[.slice Ao60 t370.length co60, .int .i64 t373, .int .i64 t374, .int .i64 t375, .int .i64 t376, .int .i64 t377] 90 (0, 0)) (by (with_reducible repeat (first | refine blk_drewN ?_ _ | refine blk_drew ?_ | refine blk_alloc ?_ _)); exact blk_fill6 BK379.out) hb) (an (below_step (by exact bel0) hb) (trivial))))))))))))); clear HO336 HO345 HO348 HO358 HO368 HO372 BK330 BK331 BK355 BK364 BK369 BK379 HB; obtain ⟨HO336, HO345, HO348, HO358, HO368, HO372, BK330, BK331, BK355, BK364, BK369, BK379, HB, -⟩ := n_; (try clear hb); (try clear hb2); (try clear hk); (try clear hi); refine Stop.out ?_))
        refine Stop.mk ?_
        replace H := H.out
        by_cases c80 : t380 = true
        · subst c80
          rw [if_pos rfl] at H
          have H' := Aside0.mk H
          clear H
          go_wp2
          go_meet
          case rel => exact ⟨_, ((t378 != t354)), (by first | rfl | (simp; done) | (simp [*]; done)), H', ⟨by first | omega | exact Nat.le_refl _⟩, ⟨by exact Kd.R_nw (Kd.R_mono HO348.out (fun _ hk => ⟨hk.1.2, hk.2⟩))⟩, ⟨by exact Kd.R_nw (Kd.R_mono HO358.out (fun _ hk => ⟨hk.1.2, hk.2⟩))⟩, ⟨by exact Kd.R_nw (Kd.R_mono HO368.out (fun _ hk => trivial))⟩, ⟨by exact Kd.R_nw (Kd.R_mono HO372.out (fun _ hk => ⟨hk.1.2, hk.2⟩))⟩, ⟨by exact blk_nw BK330.out⟩, ⟨by exact blk_nw BK331.out⟩, ⟨by exact blk_nw BK355.out⟩, ⟨by exact blk_nw BK364.out⟩, ⟨by exact blk_nw BK369.out⟩, ⟨by exact blk_nw BK379.out⟩, ⟨by exact bel0⟩⟩
        · replace c80 := Bool.eq_false_iff.mpr c80
          subst c80
          rw [if_neg (show ¬ (false = true) by decide)] at H
          have H' := Aside0.mk H
          clear H
          go_wp2
          go_meet
          case rel => exact ⟨_, (true), (by first | rfl | (simp; done) | (simp [*]; done)), H', ⟨by first | omega | exact Nat.le_refl _⟩, ⟨by exact Kd.R_nw (Kd.R_mono HO348.out (fun _ hk => ⟨hk.1.2, hk.2⟩))⟩, ⟨by exact Kd.R_nw (Kd.R_mono HO358.out (fun _ hk => ⟨hk.1.2, hk.2⟩))⟩, ⟨by exact Kd.R_nw (Kd.R_mono HO368.out (fun _ hk => trivial))⟩, ⟨by exact Kd.R_nw (Kd.R_mono HO372.out (fun _ hk => ⟨hk.1.2, hk.2⟩))⟩, ⟨by exact blk_nw BK330.out⟩, ⟨by exact blk_nw BK331.out⟩, ⟨by exact blk_nw BK355.out⟩, ⟨by exact blk_nw BK364.out⟩, ⟨by exact blk_nw BK369.out⟩, ⟨by exact blk_nw BK379.out⟩, ⟨by exact bel0⟩⟩
      case rest =>
        clear HC21
        try clear c1
        try clear c2
        try clear p2
        try clear c3
        try clear c4
        try clear c5
        try clear c6
        try clear c7
        try clear c8
        try clear c25
        try clear c37
        try clear c38
        try clear c43
        try clear c44
        try clear c45
        try clear c47
        try clear c51
        try clear c52
        try clear c53
        try clear c54
        try clear c58
        try clear c60
        try clear c61
        try clear c62
        try clear c63
        try clear c64
        try clear c65
        try clear c68
        try clear c69
        try clear c70
        try clear c71
        try clear c72
        try clear c74
        try clear c75
        try clear c76
        try clear c77
        try clear c80
        try clear hcz39_0
        try clear hcz39_1
        try clear hcz39_2
        try clear hcz39_3
        try clear hcz39_4
        try clear hcz39_5
        try clear hcz46_0
        try clear hcz46_1
        try clear hcz46_2
        try clear hcz46_3
        try clear hcz46_4
        try clear hcz46_5
        try clear hcz48_0
        try clear hcz48_1
        try clear hcz55_0
        try clear hcz55_1
        try clear hcz57_0
        try clear hcz57_1
        try clear hcz57_2
        try clear hcz57_3
        try clear hcz57_4
        try clear hcz57_5
        try clear hcz66_0
        try clear hcz66_1
        try clear hcz66_2
        try clear hcz66_3
        try clear hcz66_4
        try clear hcz66_5
        try clear hcz73_0
        try clear hcz73_1
        try clear hcz73_2
        try clear hcz73_3
        try clear hcz73_4
        try clear hcz73_5
        try clear hcz78_0
        try clear hcz78_1
        try clear hcz78_2
        try clear hcz78_3
        try clear hcz78_4
        try clear hcz78_5
        try clear hfz39_0
        try clear hfz39_1
        try clear hfz39_2
        try clear hfz39_3
        try clear hfz39_4
        try clear hfz39_5
        try clear hfz46_0
        try clear hfz46_1
        try clear hfz46_2
        try clear hfz46_3
        try clear hfz46_4
        try clear hfz46_5
        try clear hfz48_0
        try clear hfz48_1
        try clear hfz55_0
        try clear hfz55_1
        try clear hfz57_0
        try clear hfz57_1
        try clear hfz57_2
        try clear hfz57_3
        try clear hfz57_4
        try clear hfz57_5
        try clear hfz66_0
        try clear hfz66_1
        try clear hfz66_2
        try clear hfz66_3
        try clear hfz66_4
        try clear hfz66_5
        try clear hfz73_0
        try clear hfz73_1
        try clear hfz73_2
        try clear hfz73_3
        try clear hfz73_4
        try clear hfz73_5
        try clear hfz78_0
        try clear hfz78_1
        try clear hfz78_2
        try clear hfz78_3
        try clear hfz78_4
        try clear hfz78_5
        obtain ⟨kq, x53_20, rfl, HA, HJ20, HO_356000, HO_365000, HO_370001, HO_380000, BK330, BK331, BK355, BK364, BK369, BK379, HB⟩ := hcut
        cases kq with
        | zero => exact absurd HA.out (by simp [laws_FnExactNextProbe.j0])
        | succ kj20 =>
          have H := HA.out
          clear HA
          simp only [laws_FnExactNextProbe.j0] at H
          by_cases c81 : x53_20 = true
          · subst c81
            rw [if_pos rfl] at H
            obtain rfl := Option.some.inj H
            go_wp2
            go_ret
            exact ⟨by first | rfl | (simp [errW_none, errW_some] <;> rfl) | (simp [*, errW_none, errW_some] <;> rfl), by exact bel0⟩
          · replace c81 := Bool.eq_false_iff.mpr c81
            subst c81
            rw [if_neg (show ¬ (false = true) by decide)] at H
            replace H := Option.bind_eq_some_iff.mp H
            obtain ⟨⟨t381, t384, t385, t386, t387, t388⟩, A820, H⟩ := H
            replace H : ((laws_eqProber.f kj20 t356 t359 t360 t361 t362 t363 t381 t384 t385 t386 t387 t388).bind fun t389 => (if t389 = true then ((laws_toTable.f kj20 a1_0 l1_1).bind fun bt390 => ((laws_eqTable.f kj20 t365 t366 bt390.1 bt390.2).bind fun t394 => (if t394 = true then ((laws_markProber.f kj20 t356 t359 t360 t361 t362 t363 1).bind fun bt395 => ((laws_markTable.f kj20 t365 t366 bt395.1).bind fun bt397 => (if bt397.1 < 0 then (laws_FnExactNextProbe.j1 kj20 t354 true l0_0 a0_1 a0_2 a0_3 a0_4 a0_5 a1_0 l1_1 t346 t349 t350 t351 t352 t353 t370 t373 t374 t375 t376 t377) else ((laws_eqProber.f kj20 t370 t373 t374 t375 t376 t377 t346 t349 t350 t351 t352 t353).bind fun t399 => (if t399 = true then (laws_FnExactNextProbe.j1 kj20 t354 (t378 != t354) l0_0 a0_1 a0_2 a0_3 a0_4 a0_5 a1_0 l1_1 t346 t349 t350 t351 t352 t353 t370 t373 t374 t375 t376 t377) else (laws_FnExactNextProbe.j1 kj20 t354 true l0_0 a0_1 a0_2 a0_3 a0_4 a0_5 a1_0 l1_1 t346 t349 t350 t351 t352 t353 t370 t373 t374 t375 t376 t377)))))) else (some false)))) else (some false))) = some r := H
            have A82 := Aside0.mk A820
            clear A820
            replace H := Option.bind_eq_some_iff.mp H
            obtain ⟨t389, A830, H⟩ := H
            have A83 := Aside0.mk A830
            clear A830
            replace H := Aside0.mk H
            try go_wp2
            have n_ := an (Kd.R_drew HO_356000.out) (an (Kd.R_drew HO_365000.out) (an (Kd.R_drew HO_370001.out) (an (Kd.R_drew HO_380000.out) (an (blk_drew BK330.out) (an (blk_drew BK331.out) (an (blk_drew BK355.out) (an (blk_drew BK364.out) (an (blk_drew BK369.out) (an (blk_drew BK379.out) (an (below_drew1 HB.out) (trivial)))))))))))
            clear HO_356000 HO_365000 HO_370001 HO_380000 BK330 BK331 BK355 BK364 BK369 BK379 HB
            obtain ⟨HO_356000, HO_365000, HO_370001, HO_380000, BK330, BK331, BK355, BK364, BK369, BK379, HB, -⟩ := n_
            refine start_ (n := 5) (S := fun w' => w'.cell? ⟨gb364, 0, none⟩ = some (.slice Ao42 t356.length co42) ∧ w'.cell? ⟨gb364, 1, none⟩ = some (.int .i64 t359) ∧ w'.cell? ⟨gb364, 2, none⟩ = some (.int .i64 t360) ∧ w'.cell? ⟨gb364, 3, none⟩ = some (.int .i64 t361) ∧ w'.cell? ⟨gb364, 4, none⟩ = some (.int .i64 t362) ∧ w'.cell? ⟨gb364, 5, none⟩ = some (.int .i64 t363) ∧ w'.cell? ⟨gb330, 0, none⟩ = some (.slice A0_0 l0_0.length c0_0) ∧ w'.cell? ⟨gb330, 1, none⟩ = some (.int .i64 a0_1) ∧ w'.cell? ⟨gb330, 2, none⟩ = some (.int .i64 a0_2) ∧ w'.cell? ⟨gb330, 3, none⟩ = some (.int .i64 a0_3) ∧ w'.cell? ⟨gb330, 4, none⟩ = some (.int .i64 a0_4) ∧ w'.cell? ⟨gb330, 5, none⟩ = some (.int .i64 a0_5)) (ds := []) #[false, false, false, false, false] (by kernel_rfl) rfl rfl ⟨(blk_cell BK364.out 0).trans rfl, (blk_cell BK364.out 1).trans rfl, (blk_cell BK364.out 2).trans rfl, (blk_cell BK364.out 3).trans rfl, (blk_cell BK364.out 4).trans rfl, (blk_cell BK364.out 5).trans rfl, (blk_cell BK330.out 0).trans rfl, (blk_cell BK330.out 1).trans rfl, (blk_cell BK330.out 2).trans rfl, (blk_cell BK330.out 3).trans rfl, (blk_cell BK330.out 4).trans rfl, (blk_cell BK330.out 5).trans rfl⟩ (fun hHeld => ?_)
            generalize wc.drew = w84 at HO_356000 HO_365000 HO_370001 HO_380000 BK330 BK331 BK355 BK364 BK369 BK379 HB hHeld ⊢
            refine take_ (i := 0) (N := some 54) (v := ?_) (a' := ?_) #[true, false, false, false, false] rfl rfl (by kernel_rfl) (fun _ _ _ h => h) (Or.inl ⟨by rfl, ?_⟩) hHeld ?_ ?_
            rotate_left
            · rintro w' ⟨s0, s1, s2, s3, s4, s5, s6, s7, s8, s9, s10, s11⟩
              go_simp
              with_reducible rfl
            rotate_left
            · simp only [Act.put, List.setIfInBounds_toArray, List.set_cons_zero, List.set_cons_succ, i64_w, i32_w]
              rfl
            refine take_ (i := 1) (N := some 55) (v := ?_) (a' := ?_) #[true, true, false, false, false] rfl rfl (by kernel_rfl) (fun _ _ _ h => h) (Or.inl ⟨by rfl, ?_⟩) hHeld ?_ ?_
            rotate_left
            · rintro w' ⟨s0, s1, s2, s3, s4, s5, s6, s7, s8, s9, s10, s11⟩
              go_simp
              with_reducible rfl
            rotate_left
            · simp only [Act.put, List.setIfInBounds_toArray, List.set_cons_zero, List.set_cons_succ, i64_w, i32_w]
              rfl
            refine one_ (i := 2) (N := some 56) #[true, true, true, false, false] rfl rfl (by kernel_rfl) (by decide) (fun K hK => ?_)
            refine goes_ Try.func58 (by kernel_rfl) rfl #[.agg #[.slice A0_0 l0_0.length c0_0, .int .i64 a0_1, .int .i64 a0_2, .int .i64 a0_3, .int .i64 a0_4, .int .i64 a0_5]] (by rfl) rfl rfl (by (try simp only [List.map_toArray, List.map_cons, List.map_nil]); first | done | rfl | (simp only [List.length_drop, List.length_take]; rfl)) ?_
            with_reducible refine (laws_toProber.calls kj20 _ _ l0_0 a0_1 a0_2 a0_3 a0_4 a0_5 t381 t384 t385 t386 t387 t388 _ ?side1 ?side2 A82.out).mono ?_
            (case side1 => repeat (first | exact (Kd.C_below HR0_0.out HB.out) | (with_reducible refine Kd.C_alloc ?_ _) | (with_reducible refine Kd.C_drewN ?_ _) | (with_reducible refine Kd.C_drew ?_)))
            (case side2 => exact HC0_0.out)
            rintro e w85 ⟨v382, rfl, ho0, hb⟩
            refine ⟨_, rfl, ?_⟩
            have n_ := an (Kd.R_elder' (by exact Kd.R_nw HO_356000.out) (Kd.R_base ho0) hb) (an (Kd.R_elder' (by exact Kd.R_nw HO_365000.out) (Kd.R_base ho0) hb) (an (Kd.R_below (by exact Kd.R_nw HO_370001.out) hb) (an (Kd.R_elder' (by exact Kd.R_nw HO_380000.out) (Kd.R_base ho0) hb) (an (Kd.R_lower (Kd.R_new' (Kd.R_new' (Kd.R_new' ho0 (Kd.R_lt (by exact Kd.R_nw HO_356000.out))) (Kd.R_lt (by exact Kd.R_nw HO_365000.out))) (Kd.R_lt (by exact Kd.R_nw HO_380000.out))) (below_size (by exact bel0))) (an (blk_below (blk_nw BK330.out) hb) (an (blk_below (blk_nw BK331.out) hb) (an (blk_below (blk_nw BK355.out) hb) (an (blk_below (blk_nw BK364.out) hb) (an (blk_below (blk_nw BK369.out) hb) (an (blk_below (blk_nw BK379.out) hb) (an (below_step (by exact bel0) hb) (trivial))))))))))))
            clear HO_356000 HO_365000 HO_370001 HO_380000 BK330 BK331 BK355 BK364 BK369 BK379 HB
            obtain ⟨HO_356000, HO_365000, HO_370001, HO_380000, HO383, BK330, BK331, BK355, BK364, BK369, BK379, HB, -⟩ := n_
            (try clear hb)
            (try clear hb2)
            (try clear hk)
            (try clear hi)
            (try clear ho0)
            obtain ⟨Ao86, co86, eo86⟩ := Kd.R_slice HO383.out
            (first | subst eo86 | (injection eo86 with f1_ f2_ f3_; have f4_ := f1_.symm; have f5_ := f3_.symm; clear f1_ f2_ f3_; subst f4_; subst f5_))
            refine hK.out _ _ ⟨(blk_cell BK364.out 0).trans rfl, (blk_cell BK364.out 1).trans rfl, (blk_cell BK364.out 2).trans rfl, (blk_cell BK364.out 3).trans rfl, (blk_cell BK364.out 4).trans rfl, (blk_cell BK364.out 5).trans rfl, (blk_cell BK330.out 0).trans rfl, (blk_cell BK330.out 1).trans rfl, (blk_cell BK330.out 2).trans rfl, (blk_cell BK330.out 3).trans rfl, (blk_cell BK330.out 4).trans rfl, (blk_cell BK330.out 5).trans rfl⟩ (fun hHeld => ?_)
            clear hK K
            refine norm_ (a' := ?_) ?_ ?_
            rotate_left
            · show Act.put _ (some 56) _ = _
              simp only [Act.put, List.setIfInBounds_toArray, List.set_cons_zero, List.set_cons_succ, i64_w, i32_w]
              rfl
            refine one_ (i := 3) (N := some 57) #[true, true, true, true, false] rfl rfl (by kernel_rfl) (by decide) (fun K hK => ?_)
            refine goes_ Try.func60 (by kernel_rfl) rfl #[.agg #[.slice Ao42 t356.length co42, .int .i64 t359, .int .i64 t360, .int .i64 t361, .int .i64 t362, .int .i64 t363], .agg #[.slice Ao86 t381.length co86, .int .i64 t384, .int .i64 t385, .int .i64 t386, .int .i64 t387, .int .i64 t388]] (by rfl) rfl rfl (by (try simp only [List.map_toArray, List.map_cons, List.map_nil]); first | done | rfl | (simp only [List.length_drop, List.length_take]; rfl)) ?_
            with_reducible refine (laws_eqProber.calls kj20 _ _ t356 t359 t360 t361 t362 t363 _ _ t381 t384 t385 t386 t387 t388 t389 _ ?side1 ?side2 ?side3 ?side4 A83.out).mono ?_
            (case side1 => repeat (first | exact (Kd.R_reads' HO_365000.out).2.2 | (with_reducible refine Kd.C_alloc ?_ _) | (with_reducible refine Kd.C_drewN ?_ _) | (with_reducible refine Kd.C_drew ?_)))
            (case side2 => exact (Kd.R_reads' HO_365000.out).2.1)
            (case side3 => repeat (first | exact (Kd.R_reads' HO383.out).2.2 | (with_reducible refine Kd.C_alloc ?_ _) | (with_reducible refine Kd.C_drewN ?_ _) | (with_reducible refine Kd.C_drew ?_)))
            (case side4 => exact (Kd.R_reads' HO383.out).2.1)
            rintro e w87 ⟨rfl, hb⟩
            refine ⟨_, rfl, ?_⟩
            have n_ := an (Kd.R_below (by exact Kd.R_nw HO_356000.out) hb) (an (Kd.R_below (by exact Kd.R_nw HO_365000.out) hb) (an (Kd.R_below (by exact Kd.R_nw HO_370001.out) hb) (an (Kd.R_below (by exact Kd.R_nw HO_380000.out) hb) (an (Kd.R_below (by exact Kd.R_nw HO383.out) hb) (an (blk_below (blk_nw BK330.out) hb) (an (blk_below (blk_nw BK331.out) hb) (an (blk_below (blk_nw BK355.out) hb) (an (blk_below (blk_nw BK364.out) hb) (an (blk_below (blk_nw BK369.out) hb) (an (blk_below (blk_nw BK379.out) hb) (an (below_step (by exact bel0) hb) (trivial))))))))))))
            clear HO_356000 HO_365000 HO_370001 HO_380000 HO383 BK330 BK331 BK355 BK364 BK369 BK379 HB
            obtain ⟨HO_356000, HO_365000, HO_370001, HO_380000, HO383, BK330, BK331, BK355, BK364, BK369, BK379, HB, -⟩ := n_
            (try clear hb)
            (try clear hb2)
            (try clear hk)
            (try clear hi)
            refine hK.out _ _ ⟨(blk_cell BK364.out 0).trans rfl, (blk_cell BK364.out 1).trans rfl, (blk_cell BK364.out 2).trans rfl, (blk_cell BK364.out 3).trans rfl, (blk_cell BK364.out 4).trans rfl, (blk_cell BK364.out 5).trans rfl, (blk_cell BK330.out 0).trans rfl, (blk_cell BK330.out 1).trans rfl, (blk_cell BK330.out 2).trans rfl, (blk_cell BK330.out 3).trans rfl, (blk_cell BK330.out 4).trans rfl, (blk_cell BK330.out 5).trans rfl⟩ (fun hHeld => ?_)
            clear hK K
            refine norm_ (a' := ?_) ?_ ?_
            rotate_left
            · show Act.put _ (some 57) _ = _
              simp only [Act.put, List.setIfInBounds_toArray, List.set_cons_zero, List.set_cons_succ, i64_w, i32_w]
              rfl
            refine pure_ (i := 4) (N := some 58) (v := ?_) (a' := ?_) #[true, true, true, true, true] rfl rfl (by kernel_rfl) (fun _ _ _ h => h) (Or.inl ⟨by rfl, ?_⟩) ?_ ?_
            rotate_left
            · intro w'
              go_simp
              with_reducible rfl
            rotate_left
            · simp only [Act.put, List.setIfInBounds_toArray, List.set_cons_zero, List.set_cons_succ, i64_w, i32_w]
              rfl
            refine done_ (by kernel_rfl) ?_
            replace H := H.out
            by_cases c88 : t389 = true
            · subst c88
              rw [if_pos rfl] at H
              replace H := Option.bind_eq_some_iff.mp H
              obtain ⟨⟨t390, t391⟩, A890, H⟩ := H
              replace H : ((laws_eqTable.f kj20 t365 t366 t390 t391).bind fun t394 => (if t394 = true then ((laws_markProber.f kj20 t356 t359 t360 t361 t362 t363 1).bind fun bt395 => ((laws_markTable.f kj20 t365 t366 bt395.1).bind fun bt397 => (if bt397.1 < 0 then (laws_FnExactNextProbe.j1 kj20 t354 true l0_0 a0_1 a0_2 a0_3 a0_4 a0_5 a1_0 l1_1 t346 t349 t350 t351 t352 t353 t370 t373 t374 t375 t376 t377) else ((laws_eqProber.f kj20 t370 t373 t374 t375 t376 t377 t346 t349 t350 t351 t352 t353).bind fun t399 => (if t399 = true then (laws_FnExactNextProbe.j1 kj20 t354 (t378 != t354) l0_0 a0_1 a0_2 a0_3 a0_4 a0_5 a1_0 l1_1 t346 t349 t350 t351 t352 t353 t370 t373 t374 t375 t376 t377) else (laws_FnExactNextProbe.j1 kj20 t354 true l0_0 a0_1 a0_2 a0_3 a0_4 a0_5 a1_0 l1_1 t346 t349 t350 t351 t352 t353 t370 t373 t374 t375 t376 t377)))))) else (some false))) = some r := H
              have A89 := Aside0.mk A890
              clear A890
              replace H := Option.bind_eq_some_iff.mp H
              obtain ⟨t394, A900, H⟩ := H
              have A90 := Aside0.mk A900
              clear A900
              replace H := Aside0.mk H
              try go_wp2
              have n_ := an (Kd.R_drew HO_356000.out) (an (Kd.R_drew HO_365000.out) (an (Kd.R_drew HO_370001.out) (an (Kd.R_drew HO_380000.out) (an (Kd.R_drew HO383.out) (an (blk_drew BK330.out) (an (blk_drew BK331.out) (an (blk_drew BK355.out) (an (blk_drew BK364.out) (an (blk_drew BK369.out) (an (blk_drew BK379.out) (an (below_drew1 HB.out) (trivial))))))))))))
              clear HO_356000 HO_365000 HO_370001 HO_380000 HO383 BK330 BK331 BK355 BK364 BK369 BK379 HB
              obtain ⟨HO_356000, HO_365000, HO_370001, HO_380000, HO383, BK330, BK331, BK355, BK364, BK369, BK379, HB, -⟩ := n_
              refine start_ (n := 5) (S := fun w' => w'.cell? ⟨gb369, 0, none⟩ = some (.int .i64 t365) ∧ w'.cell? ⟨gb369, 1, none⟩ = some (.slice Ao56 t366.length co56) ∧ w'.cell? ⟨gb331, 0, none⟩ = some (.int .i64 a1_0) ∧ w'.cell? ⟨gb331, 1, none⟩ = some (.slice A1_1 l1_1.length c1_1)) (ds := []) #[false, false, false, false, false] (by kernel_rfl) rfl rfl ⟨(blk_cell BK369.out 0).trans rfl, (blk_cell BK369.out 1).trans rfl, (blk_cell BK331.out 0).trans rfl, (blk_cell BK331.out 1).trans rfl⟩ (fun hHeld => ?_)
              generalize w87.drew = w91 at HO_356000 HO_365000 HO_370001 HO_380000 HO383 BK330 BK331 BK355 BK364 BK369 BK379 HB hHeld ⊢
              refine take_ (i := 0) (N := some 59) (v := ?_) (a' := ?_) #[true, false, false, false, false] rfl rfl (by kernel_rfl) (fun _ _ _ h => h) (Or.inl ⟨by rfl, ?_⟩) hHeld ?_ ?_
              rotate_left
              · rintro w' ⟨s0, s1, s2, s3⟩
                go_simp
                with_reducible rfl
              rotate_left
              · simp only [Act.put, List.setIfInBounds_toArray, List.set_cons_zero, List.set_cons_succ, i64_w, i32_w]
                rfl
              refine take_ (i := 1) (N := some 60) (v := ?_) (a' := ?_) #[true, true, false, false, false] rfl rfl (by kernel_rfl) (fun _ _ _ h => h) (Or.inl ⟨by rfl, ?_⟩) hHeld ?_ ?_
              rotate_left
              · rintro w' ⟨s0, s1, s2, s3⟩
                go_simp
                with_reducible rfl
              rotate_left
              · simp only [Act.put, List.setIfInBounds_toArray, List.set_cons_zero, List.set_cons_succ, i64_w, i32_w]
                rfl
              refine one_ (i := 2) (N := some 61) #[true, true, true, false, false] rfl rfl (by kernel_rfl) (by decide) (fun K hK => ?_)
              refine goes_ Try.func25 (by kernel_rfl) rfl #[.agg #[.int .i64 a1_0, .slice A1_1 l1_1.length c1_1]] (by rfl) rfl rfl (by (try simp only [List.map_toArray, List.map_cons, List.map_nil]); first | done | rfl | (simp only [List.length_drop, List.length_take]; rfl)) ?_
              with_reducible refine (laws_toTable.calls kj20 a1_0 _ _ l1_1 t390 t391 _ ?side1 ?side2 A89.out).mono ?_
              (case side1 => repeat (first | exact (Kd.C_below HR1_1.out HB.out) | (with_reducible refine Kd.C_alloc ?_ _) | (with_reducible refine Kd.C_drewN ?_ _) | (with_reducible refine Kd.C_drew ?_)))
              (case side2 => exact HC1_1.out)
              rintro e w92 ⟨v392, rfl, ho0, hb⟩
              refine ⟨_, rfl, ?_⟩
              have n_ := an (Kd.R_below (by exact Kd.R_nw HO_356000.out) hb) (an (Kd.R_below (by exact Kd.R_nw HO_365000.out) hb) (an (Kd.R_elder' (by exact Kd.R_nw HO_370001.out) (Kd.R_base ho0) hb) (an (Kd.R_below (by exact Kd.R_nw HO_380000.out) hb) (an (Kd.R_below (by exact Kd.R_nw HO383.out) hb) (an (Kd.R_lower (Kd.R_new' ho0 (Kd.R_lt (by exact Kd.R_nw HO_370001.out))) (below_size (by exact bel0))) (an (blk_below (blk_nw BK330.out) hb) (an (blk_below (blk_nw BK331.out) hb) (an (blk_below (blk_nw BK355.out) hb) (an (blk_below (blk_nw BK364.out) hb) (an (blk_below (blk_nw BK369.out) hb) (an (blk_below (blk_nw BK379.out) hb) (an (below_step (by exact bel0) hb) (trivial)))))))))))))
              clear HO_356000 HO_365000 HO_370001 HO_380000 HO383 BK330 BK331 BK355 BK364 BK369 BK379 HB
              obtain ⟨HO_356000, HO_365000, HO_370001, HO_380000, HO383, HO393, BK330, BK331, BK355, BK364, BK369, BK379, HB, -⟩ := n_
              (try clear hb)
              (try clear hb2)
              (try clear hk)
              (try clear hi)
              (try clear ho0)
              obtain ⟨Ao93, co93, eo93⟩ := Kd.R_slice HO393.out
              (first | subst eo93 | (injection eo93 with f1_ f2_ f3_; have f4_ := f1_.symm; have f5_ := f3_.symm; clear f1_ f2_ f3_; subst f4_; subst f5_))
              refine hK.out _ _ ⟨(blk_cell BK369.out 0).trans rfl, (blk_cell BK369.out 1).trans rfl, (blk_cell BK331.out 0).trans rfl, (blk_cell BK331.out 1).trans rfl⟩ (fun hHeld => ?_)
              clear hK K
              refine norm_ (a' := ?_) ?_ ?_
              rotate_left
              · show Act.put _ (some 61) _ = _
                simp only [Act.put, List.setIfInBounds_toArray, List.set_cons_zero, List.set_cons_succ, i64_w, i32_w]
                rfl
              refine one_ (i := 3) (N := some 62) #[true, true, true, true, false] rfl rfl (by kernel_rfl) (by decide) (fun K hK => ?_)
              refine goes_ Try.func27 (by kernel_rfl) rfl #[.agg #[.int .i64 t365, .slice Ao56 t366.length co56], .agg #[.int .i64 t390, .slice Ao93 t391.length co93]] (by rfl) rfl rfl (by (try simp only [List.map_toArray, List.map_cons, List.map_nil]); first | done | rfl | (simp only [List.length_drop, List.length_take]; rfl)) ?_
              with_reducible refine (laws_eqTable.calls kj20 t365 _ _ t366 t390 _ _ t391 t394 _ ?side1 ?side2 ?side3 ?side4 A90.out).mono ?_
              (case side1 => repeat (first | exact (Kd.R_reads' HO_370001.out).2.2 | (with_reducible refine Kd.C_alloc ?_ _) | (with_reducible refine Kd.C_drewN ?_ _) | (with_reducible refine Kd.C_drew ?_)))
              (case side2 => exact (Kd.R_reads' HO_370001.out).2.1)
              (case side3 => repeat (first | exact (Kd.R_reads' HO393.out).2.2 | (with_reducible refine Kd.C_alloc ?_ _) | (with_reducible refine Kd.C_drewN ?_ _) | (with_reducible refine Kd.C_drew ?_)))
              (case side4 => exact (Kd.R_reads' HO393.out).2.1)
              rintro e w94 ⟨rfl, hb⟩
              refine ⟨_, rfl, ?_⟩
              have n_ := an (Kd.R_below (by exact Kd.R_nw HO_356000.out) hb) (an (Kd.R_below (by exact Kd.R_nw HO_365000.out) hb) (an (Kd.R_below (by exact Kd.R_nw HO_370001.out) hb) (an (Kd.R_below (by exact Kd.R_nw HO_380000.out) hb) (an (Kd.R_below (by exact Kd.R_nw HO383.out) hb) (an (Kd.R_below (by exact Kd.R_nw HO393.out) hb) (an (blk_below (blk_nw BK330.out) hb) (an (blk_below (blk_nw BK331.out) hb) (an (blk_below (blk_nw BK355.out) hb) (an (blk_below (blk_nw BK364.out) hb) (an (blk_below (blk_nw BK369.out) hb) (an (blk_below (blk_nw BK379.out) hb) (an (below_step (by exact bel0) hb) (trivial)))))))))))))
              clear HO_356000 HO_365000 HO_370001 HO_380000 HO383 HO393 BK330 BK331 BK355 BK364 BK369 BK379 HB
              obtain ⟨HO_356000, HO_365000, HO_370001, HO_380000, HO383, HO393, BK330, BK331, BK355, BK364, BK369, BK379, HB, -⟩ := n_
              (try clear hb)
              (try clear hb2)
              (try clear hk)
              (try clear hi)
              refine hK.out _ _ ⟨(blk_cell BK369.out 0).trans rfl, (blk_cell BK369.out 1).trans rfl, (blk_cell BK331.out 0).trans rfl, (blk_cell BK331.out 1).trans rfl⟩ (fun hHeld => ?_)
              clear hK K
              refine norm_ (a' := ?_) ?_ ?_
              rotate_left
              · show Act.put _ (some 62) _ = _
                simp only [Act.put, List.setIfInBounds_toArray, List.set_cons_zero, List.set_cons_succ, i64_w, i32_w]
                rfl
              refine pure_ (i := 4) (N := some 63) (v := ?_) (a' := ?_) #[true, true, true, true, true] rfl rfl (by kernel_rfl) (fun _ _ _ h => h) (Or.inl ⟨by rfl, ?_⟩) ?_ ?_
              rotate_left
              · intro w'
                go_simp
                with_reducible rfl
              rotate_left
              · simp only [Act.put, List.setIfInBounds_toArray, List.set_cons_zero, List.set_cons_succ, i64_w, i32_w]
                rfl
              refine done_ (by kernel_rfl) ?_
              replace H := H.out
              by_cases c95 : t394 = true
              · subst c95
                rw [if_pos rfl] at H
                replace H := Option.bind_eq_some_iff.mp H
                obtain ⟨⟨t395, t396⟩, A960, H⟩ := H
                replace H : ((laws_markTable.f kj20 t365 t366 t395).bind fun bt397 => (if bt397.1 < 0 then (laws_FnExactNextProbe.j1 kj20 t354 true l0_0 a0_1 a0_2 a0_3 a0_4 a0_5 a1_0 l1_1 t346 t349 t350 t351 t352 t353 t370 t373 t374 t375 t376 t377) else ((laws_eqProber.f kj20 t370 t373 t374 t375 t376 t377 t346 t349 t350 t351 t352 t353).bind fun t399 => (if t399 = true then (laws_FnExactNextProbe.j1 kj20 t354 (t378 != t354) l0_0 a0_1 a0_2 a0_3 a0_4 a0_5 a1_0 l1_1 t346 t349 t350 t351 t352 t353 t370 t373 t374 t375 t376 t377) else (laws_FnExactNextProbe.j1 kj20 t354 true l0_0 a0_1 a0_2 a0_3 a0_4 a0_5 a1_0 l1_1 t346 t349 t350 t351 t352 t353 t370 t373 t374 t375 t376 t377))))) = some r := H
                have A96 := Aside0.mk A960
                clear A960
                replace H := Option.bind_eq_some_iff.mp H
                obtain ⟨⟨t397, t398⟩, A970, H⟩ := H
                replace H : (if t397 < 0 then (laws_FnExactNextProbe.j1 kj20 t354 true l0_0 a0_1 a0_2 a0_3 a0_4 a0_5 a1_0 l1_1 t346 t349 t350 t351 t352 t353 t370 t373 t374 t375 t376 t377) else ((laws_eqProber.f kj20 t370 t373 t374 t375 t376 t377 t346 t349 t350 t351 t352 t353).bind fun t399 => (if t399 = true then (laws_FnExactNextProbe.j1 kj20 t354 (t378 != t354) l0_0 a0_1 a0_2 a0_3 a0_4 a0_5 a1_0 l1_1 t346 t349 t350 t351 t352 t353 t370 t373 t374 t375 t376 t377) else (laws_FnExactNextProbe.j1 kj20 t354 true l0_0 a0_1 a0_2 a0_3 a0_4 a0_5 a1_0 l1_1 t346 t349 t350 t351 t352 t353 t370 t373 t374 t375 t376 t377)))) = some r := H
                have A97 := Aside0.mk A970
                clear A970
                have HC98 := Aside0.mk H
                clear H
                have hnb99 := NB364_330.out
                have hnc99 := NB330_364.out
                have hnb100 := NB364_331.out
                have hnc100 := NB331_364.out
                have hnb101 := NB364_355.out
                have hnc101 := NB355_364.out
                have hnb102 := NB364_369.out
                have hnc102 := NB369_364.out
                have hnb103 := NB364_379.out
                have hnc103 := NB379_364.out
                obtain ⟨hcz104_0, hcz104_1, hcz104_2, hcz104_3, hcz104_4, hcz104_5⟩ := blkz6 BK364.out
                have hfz104_0 := blkf BK364.out
                go_upto_region 21 with (first | ((with_reducible refine gate_callee (f := 61) rfl ?_); refine goesL_ (some 66) rfl rfl Try.func61 (by kernel_rfl) rfl #[.agg #[.slice Ao42 t356.length co42, .int .i64 t359, .int .i64 t360, .int .i64 t361, .int .i64 t362, .int .i64 t363], .int .i64 1] rfl (by (try simp only [List.map_toArray, List.map_cons, List.map_nil]); first | done | rfl | (simp only [List.length_drop, List.length_take]; rfl)) ?_; (with_reducible refine (laws_markProber.calls kj20 (fun k_ => some k_ = (.slice Ao42 t356.length co42 : Value).ownBlock) (.slice Ao42 t356.length co42) t356 t359 t360 t361 t362 t363 1 t395 t396 w _ ?side1 ?side2 A96.out).mono ?_); (case side1 => exact bel0); (case side2 => exact Kd.R_tight rfl HO_365000.out); rintro e w105 ⟨rfl, hy0, hb, hkp⟩; refine ⟨_, rfl, ?_⟩; have n_ := an (Kd.R_mono (ok' := fun k_ => some k_ ≠ (.slice Ao42 t356.length co42 : Value).ownBlock ∧ some k_ ≠ (.slice Ao60 t370.length co60 : Value).ownBlock ∧ some k_ ≠ (.slice Ao86 t381.length co86 : Value).ownBlock) (Kd.R_keptB (HO_356000.out) hkp (fun k_ hk_ hs_ => (hk_.1.1) hs_)) (fun k_ hk_ => ⟨hk_.1.1.1, hk_.1.1.2, hk_.1.2⟩)) (an (Kd.R_reok rfl hy0 (fun k_ e_ => HO_365000.out.1 k_ e_)) (an (Kd.R_mono (ok' := fun k_ => some k_ ≠ (.slice Ao93 t391.length co93 : Value).ownBlock) (Kd.R_keptB ((Kd.R_apart' HO_370001.out (Kd.R_typed HO_365000.out) (by decide))) hkp (fun k_ hk_ hs_ => (hk_.2) hs_)) (fun k_ hk_ => hk_.1.1.2)) (an (Kd.R_mono (ok' := fun k_ => some k_ ≠ (.slice Ao30 t346.length co30 : Value).ownBlock ∧ some k_ ≠ (.slice Ao42 t356.length co42 : Value).ownBlock ∧ some k_ ≠ (.slice Ao86 t381.length co86 : Value).ownBlock) (Kd.R_keptB (HO_380000.out) hkp (fun k_ hk_ hs_ => (hk_.1.2) hs_)) (fun k_ hk_ => ⟨hk_.1.1.1, hk_.1.1.2, hk_.1.2⟩)) (an (blk_kept (by exact blk_nw BK330.out) hkp (fun hs_ => (fun e_ => (Kd.R_ne HO_365000.out BK330.out (by decide)) e_) hs_)) (an (blk_kept (by exact blk_nw BK331.out) hkp (fun hs_ => (fun e_ => (Kd.R_ne HO_365000.out BK331.out (by decide)) e_) hs_)) (an (blk_kept (by exact blk_nw BK355.out) hkp (fun hs_ => (fun e_ => (Kd.R_ne HO_365000.out BK355.out (by decide)) e_) hs_)) (an (blk_kept (by exact blk_nw BK364.out) hkp (fun hs_ => (fun e_ => (Kd.R_ne HO_365000.out BK364.out (by decide)) e_) hs_)) (an (blk_kept (by exact blk_nw BK369.out) hkp (fun hs_ => (fun e_ => (Kd.R_ne HO_365000.out BK369.out (by decide)) e_) hs_)) (an (blk_kept (by exact blk_nw BK379.out) hkp (fun hs_ => (fun e_ => (Kd.R_ne HO_365000.out BK379.out (by decide)) e_) hs_)) (an (Kd.R_mono (ok' := fun k_ => some k_ ≠ (.slice Ao30 t346.length co30 : Value).ownBlock ∧ some k_ ≠ (.slice Ao42 t356.length co42 : Value).ownBlock ∧ some k_ ≠ (.slice Ao60 t370.length co60 : Value).ownBlock) (Kd.R_keptB (HO383.out) hkp (fun k_ hk_ hs_ => (hk_.1.2) hs_)) (fun k_ hk_ => ⟨hk_.1.1.1.2, hk_.1.1.2, hk_.1.2⟩)) (an (Kd.R_mono (ok' := fun k_ => some k_ ≠ (.slice Ao56 t366.length co56 : Value).ownBlock) (Kd.R_keptB ((Kd.R_apart' HO393.out (Kd.R_typed HO_365000.out) (by decide))) hkp (fun k_ hk_ hs_ => (hk_.2) hs_)) (fun k_ hk_ => hk_.1.1.2)) (an (hb) (trivial))))))))))))); clear HO_356000 HO_365000 HO_370001 HO_380000 BK330 BK331 BK355 BK364 BK369 BK379 HO383 HO393 HB; obtain ⟨HO_356000, HO_365000, HO_370001, HO_380000, BK330, BK331, BK355, BK364, BK369, BK379, HO383, HO393, HB, -⟩ := n_; (try clear hb); (try clear hkp); (try clear hy0); have hnb106 := NB369_330.out; have hnc106 := NB330_369.out; have hnb107 := NB369_331.out; have hnc107 := NB331_369.out; have hnb108 := NB369_355.out; have hnc108 := NB355_369.out; have hnb109 := NB369_379.out; have hnc109 := NB379_369.out; obtain ⟨hcz110_0, hcz110_1⟩ := blkz2 BK369.out; have hfz110_0 := blkf BK369.out) | ((with_reducible refine gate_callee (f := 28) rfl ?_); refine goesL_ (some 69) rfl rfl Try.func28 (by kernel_rfl) rfl #[.agg #[.int .i64 t365, .slice Ao56 t366.length co56], .int .i64 t395] rfl (by (try simp only [List.map_toArray, List.map_cons, List.map_nil]); first | done | rfl | (simp only [List.length_drop, List.length_take]; rfl)) ?_; (with_reducible refine (laws_markTable.calls kj20 t365 (fun k_ => some k_ = (.slice Ao56 t366.length co56 : Value).ownBlock) (.slice Ao56 t366.length co56) t366 t395 t397 t398 w _ ?side1 ?side2 A97.out).mono ?_); (case side1 => exact bel0); (case side2 => exact Kd.R_tight rfl HO_370001.out); rintro e w111 ⟨rfl, hy0, hb, hkp⟩; refine ⟨_, rfl, ?_⟩; have n_ := an (Kd.R_mono (ok' := fun k_ => some k_ ≠ (.slice Ao42 t356.length co42 : Value).ownBlock ∧ some k_ ≠ (.slice Ao60 t370.length co60 : Value).ownBlock ∧ some k_ ≠ (.slice Ao86 t381.length co86 : Value).ownBlock) (Kd.R_keptB ((Kd.R_apart' HO_356000.out (Kd.R_typed HO_370001.out) (by decide))) hkp (fun k_ hk_ hs_ => (hk_.2) hs_)) (fun k_ hk_ => ⟨hk_.1.1.1, hk_.1.1.2.1, hk_.1.1.2.2⟩)) (an (Kd.R_mono (ok' := fun k_ => some k_ ≠ (.slice Ao30 t346.length co30 : Value).ownBlock ∧ some k_ ≠ (.slice Ao60 t370.length co60 : Value).ownBlock ∧ some k_ ≠ (.slice Ao86 t381.length co86 : Value).ownBlock) (Kd.R_keptB ((Kd.R_apart' HO_365000.out (Kd.R_typed HO_370001.out) (by decide))) hkp (fun k_ hk_ hs_ => (hk_.2) hs_)) (fun k_ hk_ => ⟨hk_.1.1.1.1, hk_.1.1.1.2, hk_.1.1.2⟩)) (an (Kd.R_reok rfl hy0 (fun k_ e_ => HO_370001.out.1 k_ e_)) (an (Kd.R_mono (ok' := fun k_ => some k_ ≠ (.slice Ao30 t346.length co30 : Value).ownBlock ∧ some k_ ≠ (.slice Ao42 t356.length co42 : Value).ownBlock ∧ some k_ ≠ (.slice Ao86 t381.length co86 : Value).ownBlock) (Kd.R_keptB ((Kd.R_apart' HO_380000.out (Kd.R_typed HO_370001.out) (by decide))) hkp (fun k_ hk_ hs_ => (hk_.2) hs_)) (fun k_ hk_ => ⟨hk_.1.1.1, hk_.1.1.2.1, hk_.1.1.2.2⟩)) (an (blk_kept (by exact blk_nw BK330.out) hkp (fun hs_ => (fun e_ => (Kd.R_ne HO_370001.out BK330.out (by decide)) e_) hs_)) (an (blk_kept (by exact blk_nw BK331.out) hkp (fun hs_ => (fun e_ => (Kd.R_ne HO_370001.out BK331.out (by decide)) e_) hs_)) (an (blk_kept (by exact blk_nw BK355.out) hkp (fun hs_ => (fun e_ => (Kd.R_ne HO_370001.out BK355.out (by decide)) e_) hs_)) (an (blk_kept (by exact blk_nw BK364.out) hkp (fun hs_ => (fun e_ => (Kd.R_ne HO_370001.out BK364.out (by decide)) e_) hs_)) (an (blk_kept (by exact blk_nw BK369.out) hkp (fun hs_ => (fun e_ => (Kd.R_ne HO_370001.out BK369.out (by decide)) e_) hs_)) (an (blk_kept (by exact blk_nw BK379.out) hkp (fun hs_ => (fun e_ => (Kd.R_ne HO_370001.out BK379.out (by decide)) e_) hs_)) (an (Kd.R_mono (ok' := fun k_ => some k_ ≠ (.slice Ao30 t346.length co30 : Value).ownBlock ∧ some k_ ≠ (.slice Ao42 t356.length co42 : Value).ownBlock ∧ some k_ ≠ (.slice Ao60 t370.length co60 : Value).ownBlock) (Kd.R_keptB ((Kd.R_apart' HO383.out (Kd.R_typed HO_370001.out) (by decide))) hkp (fun k_ hk_ hs_ => (hk_.2) hs_)) (fun k_ hk_ => ⟨hk_.1.1.1, hk_.1.1.2.1, hk_.1.1.2.2⟩)) (an (Kd.R_mono (ok' := fun k_ => some k_ ≠ (.slice Ao56 t366.length co56 : Value).ownBlock) (Kd.R_keptB (HO393.out) hkp (fun k_ hk_ hs_ => (hk_) hs_)) (fun k_ hk_ => hk_.1)) (an (hb) (trivial))))))))))))); clear HO_356000 HO_365000 HO_370001 HO_380000 BK330 BK331 BK355 BK364 BK369 BK379 HO383 HO393 HB; obtain ⟨HO_356000, HO_365000, HO_370001, HO_380000, BK330, BK331, BK355, BK364, BK369, BK379, HO383, HO393, HB, -⟩ := n_; (try clear hb); (try clear hkp); (try clear hy0)))
                (try simp only [Act.put, List.setIfInBounds_toArray, List.set_cons_zero, List.set_cons_succ])
                go_cut [82] (fun v82 wc => ∃ (kq : Nat) (x82_97 : Bool), v82 = .bool x82_97 ∧ Aside0 (laws_FnExactNextProbe.j1 kq t354 x82_97 l0_0 a0_1 a0_2 a0_3 a0_4 a0_5 a1_0 l1_1 t346 t349 t350 t351 t352 t353 t370 t373 t374 t375 t376 t377 = some r) ∧ Aside0 (kq ≤ kj20) ∧ Aside0 (Kd.R (Kd.int .i64) 3 wc w.heap.size (fun k_ => some k_ ≠ ((.slice Ao42 t356.length co42) : Value).ownBlock ∧ some k_ ≠ ((.slice Ao60 t370.length co60) : Value).ownBlock) (.slice Ao30 t346.length co30) t346) ∧ Aside0 (Kd.R (Kd.int .i64) 3 wc w.heap.size (fun k_ => some k_ ≠ ((.slice Ao30 t346.length co30) : Value).ownBlock ∧ some k_ ≠ ((.slice Ao60 t370.length co60) : Value).ownBlock) (.slice Ao42 t356.length co42) t396) ∧ Aside0 (Kd.R k82 82 wc w.heap.size (fun _ => True) (.slice Ao56 t366.length co56) t398) ∧ Aside0 (Kd.R (Kd.int .i64) 3 wc w.heap.size (fun k_ => some k_ ≠ ((.slice Ao30 t346.length co30) : Value).ownBlock ∧ some k_ ≠ ((.slice Ao42 t356.length co42) : Value).ownBlock) (.slice Ao60 t370.length co60) t370) ∧ Aside0 (wc.heap[gb330]? = some (.cells #[(.slice A0_0 l0_0.length c0_0), .int .i64 a0_1, .int .i64 a0_2, .int .i64 a0_3, .int .i64 a0_4, .int .i64 a0_5] 88 (0, 0))) ∧ Aside0 (wc.heap[gb331]? = some (.cells #[.int .i64 a1_0, (.slice A1_1 l1_1.length c1_1)] 37 (0, 0))) ∧ Aside0 (wc.heap[gb355]? = some (.cells #[(.slice Ao30 t346.length co30), .int .i64 t349, .int .i64 t350, .int .i64 t351, .int .i64 t352, .int .i64 t353] 90 (0, 0))) ∧ Aside0 (wc.heap[gb364]? = some (.cells #[(.slice Ao42 t356.length co42), .int .i64 t359, .int .i64 t360, .int .i64 t361, .int .i64 t362, .int .i64 t363] 90 (0, 0))) ∧ Aside0 (wc.heap[gb369]? = some (.cells #[.int .i64 t365, (.slice Ao56 t366.length co56)] 41 (0, 0))) ∧ Aside0 (wc.heap[gb379]? = some (.cells #[(.slice Ao60 t370.length co60), .int .i64 t373, .int .i64 t374, .int .i64 t375, .int .i64 t376, .int .i64 t377] 90 (0, 0))) ∧ Aside0 (Below w.heap.size w wc))
                case first =>
                  have H := HC98.out
                  clear HC98
                  by_cases c112 : t397 < 0
                  · rw [if_pos c112] at H
                    have c112b0 : decide (t397 < 0) = true := decide_eq_true c112
                    clear c112
                    (try simp only [c112b0])
                    (first | rw [c112b0] | (simp only [i64_w, i32_w]; rw [c112b0]) | skip)
                    have H' := Aside0.mk H
                    clear H
                    go_wp2
                    go_meet
                    case rel => exact ⟨_, (true), (by first | rfl | (simp; done) | (simp [*]; done)), H', ⟨by have := HJ20.out; first | omega | exact Nat.le_refl _⟩, ⟨by exact Kd.R_nw (Kd.R_mono HO_356000.out (fun _ hk => ⟨hk.1, hk.2.1⟩))⟩, ⟨by exact Kd.R_nw (Kd.R_mono HO_365000.out (fun _ hk => ⟨hk.1, hk.2.1⟩))⟩, ⟨by exact Kd.R_nw (Kd.R_mono HO_370001.out (fun _ hk => trivial))⟩, ⟨by exact Kd.R_nw (Kd.R_mono HO_380000.out (fun _ hk => ⟨hk.1, hk.2.1⟩))⟩, ⟨by exact blk_nw BK330.out⟩, ⟨by exact blk_nw BK331.out⟩, ⟨by exact blk_nw BK355.out⟩, ⟨by exact blk_nw BK364.out⟩, ⟨by exact blk_nw BK369.out⟩, ⟨by exact blk_nw BK379.out⟩, ⟨by exact bel0⟩⟩
                  · rw [if_neg c112] at H
                    have c112b0 : decide (t397 < 0) = false := decide_eq_false c112
                    clear c112
                    (try simp only [c112b0])
                    (first | rw [c112b0] | (simp only [i64_w, i32_w]; rw [c112b0]) | skip)
                    replace H := Option.bind_eq_some_iff.mp H
                    obtain ⟨t399, A1130, H⟩ := H
                    have A113 := Aside0.mk A1130
                    clear A1130
                    have hnb114 := NB379_330.out
                    have hnc114 := NB330_379.out
                    have hnb115 := NB379_331.out
                    have hnc115 := NB331_379.out
                    have hnb116 := NB379_355.out
                    have hnc116 := NB355_379.out
                    have hnb117 := NB379_364.out
                    have hnc117 := NB364_379.out
                    have hnb118 := NB379_369.out
                    have hnc118 := NB369_379.out
                    obtain ⟨hcz119_0, hcz119_1, hcz119_2, hcz119_3, hcz119_4, hcz119_5⟩ := blkz6 BK379.out
                    have hfz119_0 := blkf BK379.out
                    have hnb120 := NB355_330.out
                    have hnc120 := NB330_355.out
                    have hnb121 := NB355_331.out
                    have hnc121 := NB331_355.out
                    have hnb122 := NB355_364.out
                    have hnc122 := NB364_355.out
                    have hnb123 := NB355_369.out
                    have hnc123 := NB369_355.out
                    obtain ⟨hcz124_0, hcz124_1, hcz124_2, hcz124_3, hcz124_4, hcz124_5⟩ := blkz6 BK355.out
                    have hfz124_0 := blkf BK355.out
                    replace H := Aside0.mk H
                    go_wp2_with (first | (go_at_call 60; (with_reducible refine (laws_eqProber.calls kj20 _ _ t370 t373 t374 t375 t376 t377 _ _ t346 t349 t350 t351 t352 t353 t399 _ ?side1 ?side2 ?side3 ?side4 A113.out).mono ?_); (case side1 => repeat (first | exact (Kd.R_reads' HO_380000.out).2.2 | (with_reducible refine Kd.C_alloc ?_ _) | (with_reducible refine Kd.C_drewN ?_ _) | (with_reducible refine Kd.C_drew ?_))); (case side2 => exact (Kd.R_reads' HO_380000.out).2.1); (case side3 => repeat (first | exact (Kd.R_reads' HO_356000.out).2.2 | (with_reducible refine Kd.C_alloc ?_ _) | (with_reducible refine Kd.C_drewN ?_ _) | (with_reducible refine Kd.C_drew ?_))); (case side4 => exact (Kd.R_reads' HO_356000.out).2.1); rintro e w125 ⟨rfl, hb⟩; have n_ := an (Kd.R_below (by exact Kd.R_nw HO_356000.out) hb) (an (Kd.R_below (by exact Kd.R_nw HO_365000.out) hb) (an (Kd.R_below (by exact Kd.R_nw HO_370001.out) hb) (an (Kd.R_below (by exact Kd.R_nw HO_380000.out) hb) (an (Kd.R_below (by exact Kd.R_nw HO383.out) hb) (an (Kd.R_below (by exact Kd.R_nw HO393.out) hb) (an (blk_below (blk_nw BK330.out) hb) (an (blk_below (blk_nw BK331.out) hb) (an (blk_below (blk_nw BK355.out) hb) (an (blk_below (blk_nw BK364.out) hb) (an (blk_below (blk_nw BK369.out) hb) (an (blk_below (blk_nw BK379.out) hb) (an (below_step (by exact bel0) hb) (trivial))))))))))))); clear HO_356000 HO_365000 HO_370001 HO_380000 HO383 HO393 BK330 BK331 BK355 BK364 BK369 BK379 HB; obtain ⟨HO_356000, HO_365000, HO_370001, HO_380000, HO383, HO393, BK330, BK331, BK355, BK364, BK369, BK379, HB, -⟩ := n_; (try clear hb); (try clear hb2); (try clear hk); (try clear hi); refine Stop.out ?_))
                    refine Stop.mk ?_
                    replace H := H.out
                    by_cases c126 : t399 = true
                    · subst c126
                      rw [if_pos rfl] at H
                      have H' := Aside0.mk H
                      clear H
                      go_wp2
                      go_meet
                      case rel => exact ⟨_, ((t378 != t354)), (by first | rfl | (simp; done) | (simp [*]; done)), H', ⟨by have := HJ20.out; first | omega | exact Nat.le_refl _⟩, ⟨by exact Kd.R_nw (Kd.R_mono HO_356000.out (fun _ hk => ⟨hk.1, hk.2.1⟩))⟩, ⟨by exact Kd.R_nw (Kd.R_mono HO_365000.out (fun _ hk => ⟨hk.1, hk.2.1⟩))⟩, ⟨by exact Kd.R_nw (Kd.R_mono HO_370001.out (fun _ hk => trivial))⟩, ⟨by exact Kd.R_nw (Kd.R_mono HO_380000.out (fun _ hk => ⟨hk.1, hk.2.1⟩))⟩, ⟨by exact blk_nw BK330.out⟩, ⟨by exact blk_nw BK331.out⟩, ⟨by exact blk_nw BK355.out⟩, ⟨by exact blk_nw BK364.out⟩, ⟨by exact blk_nw BK369.out⟩, ⟨by exact blk_nw BK379.out⟩, ⟨by exact bel0⟩⟩
                    · replace c126 := Bool.eq_false_iff.mpr c126
                      subst c126
                      rw [if_neg (show ¬ (false = true) by decide)] at H
                      have H' := Aside0.mk H
                      clear H
                      go_wp2
                      go_meet
                      case rel => exact ⟨_, (true), (by first | rfl | (simp; done) | (simp [*]; done)), H', ⟨by have := HJ20.out; first | omega | exact Nat.le_refl _⟩, ⟨by exact Kd.R_nw (Kd.R_mono HO_356000.out (fun _ hk => ⟨hk.1, hk.2.1⟩))⟩, ⟨by exact Kd.R_nw (Kd.R_mono HO_365000.out (fun _ hk => ⟨hk.1, hk.2.1⟩))⟩, ⟨by exact Kd.R_nw (Kd.R_mono HO_370001.out (fun _ hk => trivial))⟩, ⟨by exact Kd.R_nw (Kd.R_mono HO_380000.out (fun _ hk => ⟨hk.1, hk.2.1⟩))⟩, ⟨by exact blk_nw BK330.out⟩, ⟨by exact blk_nw BK331.out⟩, ⟨by exact blk_nw BK355.out⟩, ⟨by exact blk_nw BK364.out⟩, ⟨by exact blk_nw BK369.out⟩, ⟨by exact blk_nw BK379.out⟩, ⟨by exact bel0⟩⟩
                case rest =>
                  clear HC98
                  try clear c1
                  try clear c2
                  try clear p2
                  try clear c3
                  try clear c4
                  try clear c5
                  try clear c6
                  try clear c7
                  try clear c8
                  try clear c9
                  try clear c10
                  try clear c11
                  try clear c12
                  try clear c25
                  try clear c27
                  try clear c28
                  try clear c37
                  try clear c38
                  try clear c43
                  try clear c44
                  try clear c45
                  try clear c47
                  try clear c51
                  try clear c52
                  try clear c53
                  try clear c54
                  try clear c58
                  try clear c60
                  try clear c61
                  try clear c62
                  try clear c63
                  try clear c64
                  try clear c65
                  try clear c68
                  try clear c69
                  try clear c70
                  try clear c71
                  try clear c72
                  try clear c74
                  try clear c75
                  try clear c76
                  try clear c77
                  try clear c80
                  try clear c81
                  try clear c88
                  try clear c95
                  try clear c99
                  try clear c100
                  try clear c101
                  try clear c102
                  try clear c103
                  try clear c106
                  try clear c107
                  try clear c108
                  try clear c109
                  try clear c112
                  try clear c112b0
                  try clear c114
                  try clear c115
                  try clear c116
                  try clear c117
                  try clear c118
                  try clear c120
                  try clear c121
                  try clear c122
                  try clear c123
                  try clear c126
                  try clear hcz104_0
                  try clear hcz104_1
                  try clear hcz104_2
                  try clear hcz104_3
                  try clear hcz104_4
                  try clear hcz104_5
                  try clear hcz110_0
                  try clear hcz110_1
                  try clear hcz119_0
                  try clear hcz119_1
                  try clear hcz119_2
                  try clear hcz119_3
                  try clear hcz119_4
                  try clear hcz119_5
                  try clear hcz124_0
                  try clear hcz124_1
                  try clear hcz124_2
                  try clear hcz124_3
                  try clear hcz124_4
                  try clear hcz124_5
                  try clear hcz39_0
                  try clear hcz39_1
                  try clear hcz39_2
                  try clear hcz39_3
                  try clear hcz39_4
                  try clear hcz39_5
                  try clear hcz46_0
                  try clear hcz46_1
                  try clear hcz46_2
                  try clear hcz46_3
                  try clear hcz46_4
                  try clear hcz46_5
                  try clear hcz48_0
                  try clear hcz48_1
                  try clear hcz55_0
                  try clear hcz55_1
                  try clear hcz57_0
                  try clear hcz57_1
                  try clear hcz57_2
                  try clear hcz57_3
                  try clear hcz57_4
                  try clear hcz57_5
                  try clear hcz66_0
                  try clear hcz66_1
                  try clear hcz66_2
                  try clear hcz66_3
                  try clear hcz66_4
                  try clear hcz66_5
                  try clear hcz73_0
                  try clear hcz73_1
                  try clear hcz73_2
                  try clear hcz73_3
                  try clear hcz73_4
                  try clear hcz73_5
                  try clear hcz78_0
                  try clear hcz78_1
                  try clear hcz78_2
                  try clear hcz78_3
                  try clear hcz78_4
                  try clear hcz78_5
                  try clear hfz104_0
                  try clear hfz104_1
                  try clear hfz104_2
                  try clear hfz104_3
                  try clear hfz104_4
                  try clear hfz104_5
                  try clear hfz110_0
                  try clear hfz110_1
                  try clear hfz119_0
                  try clear hfz119_1
                  try clear hfz119_2
                  try clear hfz119_3
                  try clear hfz119_4
                  try clear hfz119_5
                  try clear hfz124_0
                  try clear hfz124_1
                  try clear hfz124_2
                  try clear hfz124_3
                  try clear hfz124_4
                  try clear hfz124_5
                  try clear hfz39_0
                  try clear hfz39_1
                  try clear hfz39_2
                  try clear hfz39_3
                  try clear hfz39_4
                  try clear hfz39_5
                  try clear hfz46_0
                  try clear hfz46_1
                  try clear hfz46_2
                  try clear hfz46_3
                  try clear hfz46_4
                  try clear hfz46_5
                  try clear hfz48_0
                  try clear hfz48_1
                  try clear hfz55_0
                  try clear hfz55_1
                  try clear hfz57_0
                  try clear hfz57_1
                  try clear hfz57_2
                  try clear hfz57_3
                  try clear hfz57_4
                  try clear hfz57_5
                  try clear hfz66_0
                  try clear hfz66_1
                  try clear hfz66_2
                  try clear hfz66_3
                  try clear hfz66_4
                  try clear hfz66_5
                  try clear hfz73_0
                  try clear hfz73_1
                  try clear hfz73_2
                  try clear hfz73_3
                  try clear hfz73_4
                  try clear hfz73_5
                  try clear hfz78_0
                  try clear hfz78_1
                  try clear hfz78_2
                  try clear hfz78_3
                  try clear hfz78_4
                  try clear hfz78_5
                  try clear p2
                  obtain ⟨kq, x82_97, rfl, HA, HJ97, HO_356000, HO_365000, HO_370001, HO_380000, BK330, BK331, BK355, BK364, BK369, BK379, HB⟩ := hcut
                  have hl365000_97 := (Kd.R_reads' HO_365000.out).1
                  rw [hl365000_97] at HO_365000
                  (try simp only [hl365000_97])
                  (try simp only [hl365000_97] at BK330)
                  (try simp only [hl365000_97] at BK331)
                  (try simp only [hl365000_97] at BK355)
                  (try simp only [hl365000_97] at BK364)
                  (try simp only [hl365000_97] at BK369)
                  (try simp only [hl365000_97] at BK379)
                  (try simp only [hl365000_97] at HO_356000)
                  (try simp only [hl365000_97] at HO_370001)
                  (try simp only [hl365000_97] at HO_380000)
                  have hl370001_97 := (Kd.R_reads' HO_370001.out).1
                  rw [hl370001_97] at HO_370001
                  (try simp only [hl370001_97])
                  (try simp only [hl370001_97] at BK330)
                  (try simp only [hl370001_97] at BK331)
                  (try simp only [hl370001_97] at BK355)
                  (try simp only [hl370001_97] at BK364)
                  (try simp only [hl370001_97] at BK369)
                  (try simp only [hl370001_97] at BK379)
                  (try simp only [hl370001_97] at HO_356000)
                  (try simp only [hl370001_97] at HO_365000)
                  (try simp only [hl370001_97] at HO_380000)
                  cases kq with
                  | zero => exact absurd HA.out (by simp [laws_FnExactNextProbe.j1])
                  | succ kj97 =>
                    have H := HA.out
                    clear HA
                    simp only [laws_FnExactNextProbe.j1] at H
                    by_cases c127 : x82_97 = true
                    · subst c127
                      rw [if_pos rfl] at H
                      obtain rfl := Option.some.inj H
                      go_wp2
                      go_ret
                      exact ⟨by first | rfl | (simp [errW_none, errW_some] <;> rfl) | (simp [*, errW_none, errW_some] <;> rfl), by exact bel0⟩
                    · replace c127 := Bool.eq_false_iff.mpr c127
                      subst c127
                      rw [if_neg (show ¬ (false = true) by decide)] at H
                      replace H := Option.bind_eq_some_iff.mp H
                      obtain ⟨⟨t400, t401⟩, A1280, H⟩ := H
                      replace H : ((laws_heldProber.f kj97 t401 t373 t374 t375 t376 t377 1).bind fun t402 => (if t402 < 0 then (some false) else (if t402 = t400 then ((laws_toProber.f kj97 l0_0 a0_1 a0_2 a0_3 a0_4 a0_5).bind fun bt403 => ((laws_toTable.f kj97 a1_0 l1_1).bind fun bt411 => ((impl_NextProbe.f kj97 bt403.1 bt403.2.1 bt403.2.2.1 bt403.2.2.2.1 bt403.2.2.2.2.1 bt403.2.2.2.2.2 bt411.1 bt411.2).bind fun bt415 => ((laws_eqProber.f kj97 bt415.1 bt415.2.1 bt415.2.2.1 bt415.2.2.2.1 bt415.2.2.2.2.1 bt415.2.2.2.2.2.1 t346 t349 t350 t351 t352 t353).bind fun t425 => (if t425 = true then (laws_FnExactNextProbe.j2 kj97 t400 (bt415.2.2.2.2.2.2 != t354) t401 t373 t374 t375 t376 t377) else (laws_FnExactNextProbe.j2 kj97 t400 true t401 t373 t374 t375 t376 t377)))))) else (some false)))) = some r := H
                      have A128 := Aside0.mk A1280
                      clear A1280
                      replace H := Option.bind_eq_some_iff.mp H
                      obtain ⟨t402, A1290, H⟩ := H
                      have A129 := Aside0.mk A1290
                      clear A1290
                      have hnb130 := NB379_330.out
                      have hnc130 := NB330_379.out
                      have hnb131 := NB379_331.out
                      have hnc131 := NB331_379.out
                      have hnb132 := NB379_355.out
                      have hnc132 := NB355_379.out
                      have hnb133 := NB379_364.out
                      have hnc133 := NB364_379.out
                      have hnb134 := NB379_369.out
                      have hnc134 := NB369_379.out
                      obtain ⟨hcz135_0, hcz135_1, hcz135_2, hcz135_3, hcz135_4, hcz135_5⟩ := blkz6 BK379.out
                      have hfz135_0 := blkf BK379.out
                      replace H := Aside0.mk H
                      go_wp2_with (first | ((with_reducible refine gate_callee (f := 61) rfl ?_); refine goesL_ (some 85) rfl rfl Try.func61 (by kernel_rfl) rfl #[.agg #[.slice Ao60 t370.length co60, .int .i64 t373, .int .i64 t374, .int .i64 t375, .int .i64 t376, .int .i64 t377], .int .i64 1] rfl (by (try simp only [List.map_toArray, List.map_cons, List.map_nil]); first | done | rfl | (simp only [List.length_drop, List.length_take]; rfl)) ?_; (with_reducible refine (laws_markProber.calls kj97 (fun k_ => some k_ = (.slice Ao60 t370.length co60 : Value).ownBlock) (.slice Ao60 t370.length co60) t370 t373 t374 t375 t376 t377 1 t400 t401 w _ ?side1 ?side2 A128.out).mono ?_); (case side1 => exact bel0); (case side2 => exact Kd.R_tight rfl HO_380000.out); rintro e w136 ⟨rfl, hy0, hb, hkp⟩; refine ⟨_, rfl, ?_⟩; have n_ := an (Kd.R_mono (ok' := fun k_ => some k_ ≠ (.slice Ao42 t396.length co42 : Value).ownBlock ∧ some k_ ≠ (.slice Ao60 t370.length co60 : Value).ownBlock) (Kd.R_keptB (HO_356000.out) hkp (fun k_ hk_ hs_ => (hk_.2) hs_)) (fun k_ hk_ => ⟨hk_.1.1, hk_.1.2⟩)) (an (Kd.R_mono (ok' := fun k_ => some k_ ≠ (.slice Ao30 t346.length co30 : Value).ownBlock ∧ some k_ ≠ (.slice Ao60 t370.length co60 : Value).ownBlock) (Kd.R_keptB (HO_365000.out) hkp (fun k_ hk_ hs_ => (hk_.2) hs_)) (fun k_ hk_ => ⟨hk_.1.1, hk_.1.2⟩)) (an (Kd.R_mono (ok' := fun k_ => True) (Kd.R_keptB ((Kd.R_apart' HO_370001.out (Kd.R_typed HO_380000.out) (by decide))) hkp (fun k_ hk_ hs_ => (hk_.2) hs_)) (fun k_ hk_ => trivial)) (an (Kd.R_reok rfl hy0 (fun k_ e_ => HO_380000.out.1 k_ e_)) (an (blk_kept (by exact blk_nw BK330.out) hkp (fun hs_ => (fun e_ => (Kd.R_ne HO_380000.out BK330.out (by decide)) e_) hs_)) (an (blk_kept (by exact blk_nw BK331.out) hkp (fun hs_ => (fun e_ => (Kd.R_ne HO_380000.out BK331.out (by decide)) e_) hs_)) (an (blk_kept (by exact blk_nw BK355.out) hkp (fun hs_ => (fun e_ => (Kd.R_ne HO_380000.out BK355.out (by decide)) e_) hs_)) (an (blk_kept (by exact blk_nw BK364.out) hkp (fun hs_ => (fun e_ => (Kd.R_ne HO_380000.out BK364.out (by decide)) e_) hs_)) (an (blk_kept (by exact blk_nw BK369.out) hkp (fun hs_ => (fun e_ => (Kd.R_ne HO_380000.out BK369.out (by decide)) e_) hs_)) (an (blk_kept (by exact blk_nw BK379.out) hkp (fun hs_ => (fun e_ => (Kd.R_ne HO_380000.out BK379.out (by decide)) e_) hs_)) (an (hb) (trivial))))))))))); clear HO_356000 HO_365000 HO_370001 HO_380000 BK330 BK331 BK355 BK364 BK369 BK379 HB; obtain ⟨HO_356000, HO_365000, HO_370001, HO_380000, BK330, BK331, BK355, BK364, BK369, BK379, HB, -⟩ := n_; (try clear hb); (try clear hkp); (try clear hy0); obtain ⟨hcz137_0, hcz137_1, hcz137_2, hcz137_3, hcz137_4, hcz137_5⟩ := blkz6 BK379.out; have hfz137_0 := blkf BK379.out) | ((with_reducible refine gate_callee (f := 62) rfl ?_); refine goesL_ (some 88) rfl rfl Try.func62 (by kernel_rfl) rfl #[.agg #[.slice Ao60 t401.length co60, .int .i64 t373, .int .i64 t374, .int .i64 t375, .int .i64 t376, .int .i64 t377], .int .i64 1] rfl (by (try simp only [List.map_toArray, List.map_cons, List.map_nil]); first | done | (rw [show t401.length = t370.length from (Kd.R_reads' HO_380000.out).1.symm] <;> rfl) | rfl | (simp only [List.length_drop, List.length_take]; rfl)) ?_; (with_reducible refine (laws_heldProber.calls kj97 _ _ t401 t373 t374 t375 t376 t377 1 t402 _ ?side1 ?side2 A129.out).mono ?_); (case side1 => repeat (first | exact (Kd.R_reads' HO_380000.out).2.2 | (with_reducible refine Kd.C_alloc ?_ _) | (with_reducible refine Kd.C_drewN ?_ _) | (with_reducible refine Kd.C_drew ?_))); (case side2 => rw [show t401.length = t370.length from (Kd.R_reads' HO_380000.out).1.symm]; exact (Kd.R_reads' HO_380000.out).2.1); rintro e w138 ⟨rfl, hb⟩; refine ⟨_, rfl, ?_⟩; have n_ := an (Kd.R_below (by exact Kd.R_nw HO_356000.out) hb) (an (Kd.R_below (by exact Kd.R_nw HO_365000.out) hb) (an (Kd.R_below (by exact Kd.R_nw HO_370001.out) hb) (an (Kd.R_below (by exact Kd.R_nw HO_380000.out) hb) (an (blk_below (blk_nw BK330.out) hb) (an (blk_below (blk_nw BK331.out) hb) (an (blk_below (blk_nw BK355.out) hb) (an (blk_below (blk_nw BK364.out) hb) (an (blk_below (blk_nw BK369.out) hb) (an (blk_below (blk_nw BK379.out) hb) (an (below_step (by exact bel0) hb) (trivial))))))))))); clear HO_356000 HO_365000 HO_370001 HO_380000 BK330 BK331 BK355 BK364 BK369 BK379 HB; obtain ⟨HO_356000, HO_365000, HO_370001, HO_380000, BK330, BK331, BK355, BK364, BK369, BK379, HB, -⟩ := n_; (try clear hb); (try clear hb2); (try clear hk); (try clear hi); refine Stop.out ?_))
                      refine Stop.mk ?_
                      replace H := H.out
                      by_cases c139 : t402 < 0
                      · rw [if_pos c139] at H
                        have c139b0 : decide (t402 < 0) = true := decide_eq_true c139
                        clear c139
                        (try simp only [c139b0])
                        obtain rfl := Option.some.inj H
                        go_wp2
                        go_ret
                        exact ⟨by first | rfl | (simp [errW_none, errW_some] <;> rfl) | (simp [*, errW_none, errW_some] <;> rfl), by exact bel0⟩
                      · rw [if_neg c139] at H
                        have c139b0 : decide (t402 < 0) = false := decide_eq_false c139
                        clear c139
                        (try simp only [c139b0])
                        by_cases c140 : t402 = t400
                        · rw [if_pos c140] at H
                          have c140b0 : (t402 == t400) = true := beq_iff_eq.mpr c140
                          have c140b1 : (t402 != t400) = false := bne_eq_false_iff_eq.mpr c140
                          clear c140
                          replace H := Option.bind_eq_some_iff.mp H
                          obtain ⟨⟨t403, t406, t407, t408, t409, t410⟩, A1410, H⟩ := H
                          replace H : ((laws_toTable.f kj97 a1_0 l1_1).bind fun bt411 => ((impl_NextProbe.f kj97 t403 t406 t407 t408 t409 t410 bt411.1 bt411.2).bind fun bt415 => ((laws_eqProber.f kj97 bt415.1 bt415.2.1 bt415.2.2.1 bt415.2.2.2.1 bt415.2.2.2.2.1 bt415.2.2.2.2.2.1 t346 t349 t350 t351 t352 t353).bind fun t425 => (if t425 = true then (laws_FnExactNextProbe.j2 kj97 t400 (bt415.2.2.2.2.2.2 != t354) t401 t373 t374 t375 t376 t377) else (laws_FnExactNextProbe.j2 kj97 t400 true t401 t373 t374 t375 t376 t377))))) = some r := H
                          have A141 := Aside0.mk A1410
                          clear A1410
                          replace H := Option.bind_eq_some_iff.mp H
                          obtain ⟨⟨t411, t412⟩, A1420, H⟩ := H
                          replace H : ((impl_NextProbe.f kj97 t403 t406 t407 t408 t409 t410 t411 t412).bind fun bt415 => ((laws_eqProber.f kj97 bt415.1 bt415.2.1 bt415.2.2.1 bt415.2.2.2.1 bt415.2.2.2.2.1 bt415.2.2.2.2.2.1 t346 t349 t350 t351 t352 t353).bind fun t425 => (if t425 = true then (laws_FnExactNextProbe.j2 kj97 t400 (bt415.2.2.2.2.2.2 != t354) t401 t373 t374 t375 t376 t377) else (laws_FnExactNextProbe.j2 kj97 t400 true t401 t373 t374 t375 t376 t377)))) = some r := H
                          have A142 := Aside0.mk A1420
                          clear A1420
                          replace H := Option.bind_eq_some_iff.mp H
                          obtain ⟨⟨t415, t418, t419, t420, t421, t422, t423⟩, A1430, H⟩ := H
                          replace H : ((laws_eqProber.f kj97 t415 t418 t419 t420 t421 t422 t346 t349 t350 t351 t352 t353).bind fun t425 => (if t425 = true then (laws_FnExactNextProbe.j2 kj97 t400 (t423 != t354) t401 t373 t374 t375 t376 t377) else (laws_FnExactNextProbe.j2 kj97 t400 true t401 t373 t374 t375 t376 t377))) = some r := H
                          have A143 := Aside0.mk A1430
                          clear A1430
                          have HC144 := Aside0.mk H
                          clear H
                          try go_wp2
                          have n_ := an (Kd.R_drew HO_356000.out) (an (Kd.R_drew HO_365000.out) (an (Kd.R_drew HO_370001.out) (an (Kd.R_drew HO_380000.out) (an (blk_drew BK330.out) (an (blk_drew BK331.out) (an (blk_drew BK355.out) (an (blk_drew BK364.out) (an (blk_drew BK369.out) (an (blk_drew BK379.out) (an (below_drew1 HB.out) (trivial)))))))))))
                          clear HO_356000 HO_365000 HO_370001 HO_380000 BK330 BK331 BK355 BK364 BK369 BK379 HB
                          obtain ⟨HO_356000, HO_365000, HO_370001, HO_380000, BK330, BK331, BK355, BK364, BK369, BK379, HB, -⟩ := n_
                          refine start_ (n := 11) (S := fun w' => w'.cell? ⟨gb330, 0, none⟩ = some (.slice A0_0 l0_0.length c0_0) ∧ w'.cell? ⟨gb330, 1, none⟩ = some (.int .i64 a0_1) ∧ w'.cell? ⟨gb330, 2, none⟩ = some (.int .i64 a0_2) ∧ w'.cell? ⟨gb330, 3, none⟩ = some (.int .i64 a0_3) ∧ w'.cell? ⟨gb330, 4, none⟩ = some (.int .i64 a0_4) ∧ w'.cell? ⟨gb330, 5, none⟩ = some (.int .i64 a0_5) ∧ w'.cell? ⟨gb331, 0, none⟩ = some (.int .i64 a1_0) ∧ w'.cell? ⟨gb331, 1, none⟩ = some (.slice A1_1 l1_1.length c1_1)) (ds := []) #[false, false, false, false, false, false, false, false, false, false, false] (by kernel_rfl) rfl rfl ⟨(blk_cell BK330.out 0).trans rfl, (blk_cell BK330.out 1).trans rfl, (blk_cell BK330.out 2).trans rfl, (blk_cell BK330.out 3).trans rfl, (blk_cell BK330.out 4).trans rfl, (blk_cell BK330.out 5).trans rfl, (blk_cell BK331.out 0).trans rfl, (blk_cell BK331.out 1).trans rfl⟩ (fun hHeld => ?_); refine with_tabW laws_FnExactNextProbe.tab31 laws_FnExactNextProbe.bits31 (fun HT_ HW_ => ?_)
                          generalize w138.drew = w145 at HO_356000 HO_365000 HO_370001 HO_380000 BK330 BK331 BK355 BK364 BK369 BK379 HB hHeld ⊢
                          refine take_ (i := 0) (N := some 95) (v := ?_) (a' := ?_) #[true, false, false, false, false, false, false, false, false, false, false] rfl rfl (take_ofW HT_.out HW_.out (by kernel_rfl)) (fun _ _ _ h => h) (Or.inl ⟨by rfl, ?_⟩) hHeld ?_ ?_
                          rotate_left
                          · rintro w' ⟨s0, s1, s2, s3, s4, s5, s6, s7⟩
                            go_simp
                            with_reducible rfl
                          rotate_left
                          · simp only [Act.put, List.setIfInBounds_toArray, List.set_cons_zero, List.set_cons_succ, i64_w, i32_w]
                            rfl
                          refine take_ (i := 2) (N := some 97) (v := ?_) (a' := ?_) #[true, false, true, false, false, false, false, false, false, false, false] rfl rfl (take_ofW HT_.out HW_.out (by kernel_rfl)) (fun _ _ _ h => h) (Or.inl ⟨by rfl, ?_⟩) hHeld ?_ ?_
                          rotate_left
                          · rintro w' ⟨s0, s1, s2, s3, s4, s5, s6, s7⟩
                            go_simp
                            with_reducible rfl
                          rotate_left
                          · simp only [Act.put, List.setIfInBounds_toArray, List.set_cons_zero, List.set_cons_succ, i64_w, i32_w]
                            rfl
                          refine join_ (σ := Value × Value × Value × Nat) 2 #[true, true, true, true, true, true, true, true, true, false, false] (fun s_ => [(96, .agg #[s_.1, .int .i64 t406, .int .i64 t407, .int .i64 t408, .int .i64 t409, .int .i64 t410]), (98, .agg #[.int .i64 t411, s_.2.1]), (99, .tuple #[.agg #[s_.2.2.1, .int .i64 t418, .int .i64 t419, .int .i64 t420, .int .i64 t421, .int .i64 t422], .int .i64 t423]), (15, .pointer (some ⟨s_.2.2.2, 0, none⟩)), (94, .tuple #[.agg #[s_.2.2.1, .int .i64 t418, .int .i64 t419, .int .i64 t420, .int .i64 t421, .int .i64 t422], .int .i64 t423]), (100, .agg #[s_.2.2.1, .int .i64 t418, .int .i64 t419, .int .i64 t420, .int .i64 t421, .int .i64 t422]), (101, .int .i64 t423)]) (fun s_ w' => (w'.cell? ⟨gb330, 0, none⟩ = some (.slice A0_0 l0_0.length c0_0) ∧ w'.cell? ⟨gb330, 1, none⟩ = some (.int .i64 a0_1) ∧ w'.cell? ⟨gb330, 2, none⟩ = some (.int .i64 a0_2) ∧ w'.cell? ⟨gb330, 3, none⟩ = some (.int .i64 a0_3) ∧ w'.cell? ⟨gb330, 4, none⟩ = some (.int .i64 a0_4) ∧ w'.cell? ⟨gb330, 5, none⟩ = some (.int .i64 a0_5) ∧ w'.cell? ⟨gb331, 0, none⟩ = some (.int .i64 a1_0) ∧ w'.cell? ⟨gb331, 1, none⟩ = some (.slice A1_1 l1_1.length c1_1)) ∧ (Kd.R (Kd.int .i64) 3 w' w.heap.size (fun k_ => some k_ ≠ (s_.2.2.1 : Value).ownBlock ∧ some k_ ≠ (.slice Ao30 t346.length co30 : Value).ownBlock ∧ some k_ ≠ (.slice Ao42 t396.length co42 : Value).ownBlock ∧ some k_ ≠ (.slice Ao60 t370.length co60 : Value).ownBlock) s_.1 t403) ∧ (Kd.R k82 82 w' w.heap.size (fun k_ => some k_ ≠ (.slice Ao56 t398.length co56 : Value).ownBlock) s_.2.1 t412) ∧ (Kd.R (Kd.int .i64) 3 w' w.heap.size (fun k_ => some k_ ≠ (s_.1 : Value).ownBlock ∧ some k_ ≠ (.slice Ao30 t346.length co30 : Value).ownBlock ∧ some k_ ≠ (.slice Ao42 t396.length co42 : Value).ownBlock ∧ some k_ ≠ (.slice Ao60 t370.length co60 : Value).ownBlock) s_.2.2.1 t415) ∧ (Kd.R (Kd.int .i64) 3 w' w.heap.size (fun k_ => some k_ ≠ (s_.1 : Value).ownBlock ∧ some k_ ≠ (s_.2.2.1 : Value).ownBlock ∧ some k_ ≠ (.slice Ao42 t396.length co42 : Value).ownBlock ∧ some k_ ≠ (.slice Ao60 t370.length co60 : Value).ownBlock) (.slice Ao30 t346.length co30) t346) ∧ (Kd.R (Kd.int .i64) 3 w' w.heap.size (fun k_ => some k_ ≠ (s_.1 : Value).ownBlock ∧ some k_ ≠ (s_.2.2.1 : Value).ownBlock ∧ some k_ ≠ (.slice Ao30 t346.length co30 : Value).ownBlock ∧ some k_ ≠ (.slice Ao60 t370.length co60 : Value).ownBlock) (.slice Ao42 t396.length co42) t396) ∧ (Kd.R k82 82 w' w.heap.size (fun k_ => some k_ ≠ (s_.2.1 : Value).ownBlock) (.slice Ao56 t398.length co56) t398) ∧ (Kd.R (Kd.int .i64) 3 w' w.heap.size (fun k_ => some k_ ≠ (s_.1 : Value).ownBlock ∧ some k_ ≠ (s_.2.2.1 : Value).ownBlock ∧ some k_ ≠ (.slice Ao30 t346.length co30 : Value).ownBlock ∧ some k_ ≠ (.slice Ao42 t396.length co42 : Value).ownBlock) (.slice Ao60 t370.length co60) t401) ∧ (w'.heap[gb330]? = some (.cells #[.slice A0_0 l0_0.length c0_0, .int .i64 a0_1, .int .i64 a0_2, .int .i64 a0_3, .int .i64 a0_4, .int .i64 a0_5] 88 (0, 0))) ∧ (w'.heap[gb331]? = some (.cells #[.int .i64 a1_0, .slice A1_1 l1_1.length c1_1] 37 (0, 0))) ∧ (w'.heap[gb355]? = some (.cells #[.slice Ao30 t346.length co30, .int .i64 t349, .int .i64 t350, .int .i64 t351, .int .i64 t352, .int .i64 t353] 90 (0, 0))) ∧ (w'.heap[gb364]? = some (.cells #[.slice Ao42 t396.length co42, .int .i64 t359, .int .i64 t360, .int .i64 t361, .int .i64 t362, .int .i64 t363] 90 (0, 0))) ∧ (w'.heap[gb369]? = some (.cells #[.int .i64 t365, .slice Ao56 t398.length co56] 41 (0, 0))) ∧ (w'.heap[gb379]? = some (.cells #[.slice Ao60 t370.length co60, .int .i64 t373, .int .i64 t374, .int .i64 t375, .int .i64 t376, .int .i64 t377] 90 (0, 0))) ∧ (w'.heap[s_.2.2.2]? = some (.cells #[.slice none 0 0, .int .i64 0, .int .i64 0, .int .i64 0, .int .i64 0, .int .i64 0] 90 (0, 0))) ∧ (w.heap.size ≤ s_.2.2.2) ∧ (w.heap.size ≤ s_.2.2.2) ∧ (gb330 ≠ s_.2.2.2) ∧ (s_.2.2.2 ≠ gb330) ∧ (gb331 ≠ s_.2.2.2) ∧ (s_.2.2.2 ≠ gb331) ∧ (gb355 ≠ s_.2.2.2) ∧ (s_.2.2.2 ≠ gb355) ∧ (gb364 ≠ s_.2.2.2) ∧ (s_.2.2.2 ≠ gb364) ∧ (gb369 ≠ s_.2.2.2) ∧ (s_.2.2.2 ≠ gb369) ∧ (gb379 ≠ s_.2.2.2) ∧ (s_.2.2.2 ≠ gb379) ∧ (Below w.heap.size w w')) ?_ ?_
                          rotate_left
                          · intro hCont
                            refine two_ (i := 1) (j := 8) (Ni := some 96) (Nj := some 15) #[true, true, true, false, false, false, false, false, false, false, false] #[true, false, true, false, false, false, false, false, true, false, false] rfl rfl rfl rfl (two_of HT_.out (by kernel_rfl)) (by decide) (by decide) (fun K hK => ?_) (fun K hK => ?_)
                            · skip
                              refine goes_ Try.func58 (by kernel_rfl) rfl #[.agg #[.slice A0_0 l0_0.length c0_0, .int .i64 a0_1, .int .i64 a0_2, .int .i64 a0_3, .int .i64 a0_4, .int .i64 a0_5]] (by rfl) rfl rfl (by (try simp only [List.map_toArray, List.map_cons, List.map_nil]); first | done | rfl | (simp only [List.length_drop, List.length_take]; rfl)) ?_
                              with_reducible refine (laws_toProber.calls kj97 _ _ l0_0 a0_1 a0_2 a0_3 a0_4 a0_5 t403 t406 t407 t408 t409 t410 _ ?side1 ?side2 A141.out).mono ?_
                              (case side1 => repeat (first | exact (Kd.C_below HR0_0.out HB.out) | (with_reducible refine Kd.C_alloc ?_ _) | (with_reducible refine Kd.C_drewN ?_ _) | (with_reducible refine Kd.C_drew ?_)))
                              (case side2 => exact HC0_0.out)
                              rintro e w146 ⟨v404, rfl, ho0, hb⟩
                              refine ⟨_, rfl, ?_⟩
                              have n_ := an (Kd.R_elder' (by exact Kd.R_nw HO_356000.out) (Kd.R_base ho0) hb) (an (Kd.R_elder' (by exact Kd.R_nw HO_365000.out) (Kd.R_base ho0) hb) (an (Kd.R_below (by exact Kd.R_nw HO_370001.out) hb) (an (Kd.R_elder' (by exact Kd.R_nw HO_380000.out) (Kd.R_base ho0) hb) (an (Kd.R_lower (Kd.R_new' (Kd.R_new' (Kd.R_new' ho0 (Kd.R_lt (by exact Kd.R_nw HO_356000.out))) (Kd.R_lt (by exact Kd.R_nw HO_365000.out))) (Kd.R_lt (by exact Kd.R_nw HO_380000.out))) (below_size (by exact bel0))) (an (blk_below (blk_nw BK330.out) hb) (an (blk_below (blk_nw BK331.out) hb) (an (blk_below (blk_nw BK355.out) hb) (an (blk_below (blk_nw BK364.out) hb) (an (blk_below (blk_nw BK369.out) hb) (an (blk_below (blk_nw BK379.out) hb) (an (below_step (by exact bel0) hb) (trivial))))))))))))
                              clear HO_356000 HO_365000 HO_370001 HO_380000 BK330 BK331 BK355 BK364 BK369 BK379 HB
                              obtain ⟨HO_356000, HO_365000, HO_370001, HO_380000, HO405, BK330, BK331, BK355, BK364, BK369, BK379, HB, -⟩ := n_
                              (try clear hb)
                              (try clear hb2)
                              (try clear hk)
                              (try clear hi)
                              (try clear ho0)
                              refine hK.out _ _ ⟨(blk_cell BK330.out 0).trans rfl, (blk_cell BK330.out 1).trans rfl, (blk_cell BK330.out 2).trans rfl, (blk_cell BK330.out 3).trans rfl, (blk_cell BK330.out 4).trans rfl, (blk_cell BK330.out 5).trans rfl, (blk_cell BK331.out 0).trans rfl, (blk_cell BK331.out 1).trans rfl⟩ (fun hHeld => ?_)
                              clear hK K
                              refine norm_ (a' := ?_) ?_ ?_
                              rotate_left
                              · show Act.put _ (some 96) _ = _
                                simp only [Act.put, List.setIfInBounds_toArray, List.set_cons_zero, List.set_cons_succ, i64_w, i32_w]
                                rfl
                              refine two_ (i := 3) (j := 8) (Ni := some 98) (Nj := some 15) #[true, true, true, true, false, false, false, false, false, false, false] #[true, true, true, false, false, false, false, false, true, false, false] rfl rfl rfl rfl (two_of HT_.out (by kernel_rfl)) (by decide) (by decide) (fun K hK => ?_) (fun K hK => ?_)
                              · skip
                                refine goes_ Try.func25 (by kernel_rfl) rfl #[.agg #[.int .i64 a1_0, .slice A1_1 l1_1.length c1_1]] (by rfl) rfl rfl (by (try simp only [List.map_toArray, List.map_cons, List.map_nil]); first | done | rfl | (simp only [List.length_drop, List.length_take]; rfl)) ?_
                                with_reducible refine (laws_toTable.calls kj97 a1_0 _ _ l1_1 t411 t412 _ ?side1 ?side2 A142.out).mono ?_
                                (case side1 => repeat (first | exact (Kd.C_below HR1_1.out HB.out) | (with_reducible refine Kd.C_alloc ?_ _) | (with_reducible refine Kd.C_drewN ?_ _) | (with_reducible refine Kd.C_drew ?_)))
                                (case side2 => exact HC1_1.out)
                                rintro e w147 ⟨v413, rfl, ho0, hb⟩
                                refine ⟨_, rfl, ?_⟩
                                have n_ := an (Kd.R_below (by exact Kd.R_nw HO_356000.out) hb) (an (Kd.R_below (by exact Kd.R_nw HO_365000.out) hb) (an (Kd.R_elder' (by exact Kd.R_nw HO_370001.out) (Kd.R_base ho0) hb) (an (Kd.R_below (by exact Kd.R_nw HO_380000.out) hb) (an (Kd.R_below (by exact Kd.R_nw HO405.out) hb) (an (Kd.R_lower (Kd.R_new' ho0 (Kd.R_lt (by exact Kd.R_nw HO_370001.out))) (below_size (by exact bel0))) (an (blk_below (blk_nw BK330.out) hb) (an (blk_below (blk_nw BK331.out) hb) (an (blk_below (blk_nw BK355.out) hb) (an (blk_below (blk_nw BK364.out) hb) (an (blk_below (blk_nw BK369.out) hb) (an (blk_below (blk_nw BK379.out) hb) (an (below_step (by exact bel0) hb) (trivial)))))))))))))
                                clear HO_356000 HO_365000 HO_370001 HO_380000 HO405 BK330 BK331 BK355 BK364 BK369 BK379 HB
                                obtain ⟨HO_356000, HO_365000, HO_370001, HO_380000, HO405, HO414, BK330, BK331, BK355, BK364, BK369, BK379, HB, -⟩ := n_
                                (try clear hb)
                                (try clear hb2)
                                (try clear hk)
                                (try clear hi)
                                (try clear ho0)
                                obtain ⟨Ao148, co148, eo148⟩ := Kd.R_slice HO405.out
                                (first | subst eo148 | (injection eo148 with f1_ f2_ f3_; have f4_ := f1_.symm; have f5_ := f3_.symm; clear f1_ f2_ f3_; subst f4_; subst f5_))
                                obtain ⟨Ao149, co149, eo149⟩ := Kd.R_slice HO414.out
                                (first | subst eo149 | (injection eo149 with f1_ f2_ f3_; have f4_ := f1_.symm; have f5_ := f3_.symm; clear f1_ f2_ f3_; subst f4_; subst f5_))
                                refine hK.out _ _ ⟨(blk_cell BK330.out 0).trans rfl, (blk_cell BK330.out 1).trans rfl, (blk_cell BK330.out 2).trans rfl, (blk_cell BK330.out 3).trans rfl, (blk_cell BK330.out 4).trans rfl, (blk_cell BK330.out 5).trans rfl, (blk_cell BK331.out 0).trans rfl, (blk_cell BK331.out 1).trans rfl⟩ (fun hHeld => ?_)
                                clear hK K
                                refine norm_ (a' := ?_) ?_ ?_
                                rotate_left
                                · show Act.put _ (some 98) _ = _
                                  simp only [Act.put, List.setIfInBounds_toArray, List.set_cons_zero, List.set_cons_succ, i64_w, i32_w]
                                  rfl
                                refine two_ (i := 4) (j := 8) (Ni := some 99) (Nj := some 15) #[true, true, true, true, true, false, false, false, false, false, false] #[true, true, true, true, false, false, false, false, true, false, false] rfl rfl rfl rfl (two_of HT_.out (by kernel_rfl)) (by decide) (by decide) (fun K hK => ?_) (fun K hK => ?_)
                                · skip
                                  refine goes_ Try.func64 (by kernel_rfl) rfl #[.agg #[.slice Ao148 t403.length co148, .int .i64 t406, .int .i64 t407, .int .i64 t408, .int .i64 t409, .int .i64 t410], .agg #[.int .i64 t411, .slice Ao149 t412.length co149]] (by rfl) rfl rfl (by (try simp only [List.map_toArray, List.map_cons, List.map_nil]); first | done | rfl | (simp only [List.length_drop, List.length_take]; rfl)) ?_
                                  with_reducible refine (impl_NextProbe.calls kj97 _ _ t403 t406 t407 t408 t409 t410 t411 _ _ t412 t415 t418 t419 t420 t421 t422 t423 _ ?side1 ?side2 ?side3 ?side4 A143.out).mono ?_
                                  (case side1 => repeat (first | exact (Kd.R_reads' HO405.out).2.2 | (with_reducible refine Kd.C_alloc ?_ _) | (with_reducible refine Kd.C_drewN ?_ _) | (with_reducible refine Kd.C_drew ?_)))
                                  (case side2 => exact (Kd.R_reads' HO405.out).2.1)
                                  (case side3 => repeat (first | exact (Kd.R_reads' HO414.out).2.2 | (with_reducible refine Kd.C_alloc ?_ _) | (with_reducible refine Kd.C_drewN ?_ _) | (with_reducible refine Kd.C_drew ?_)))
                                  (case side4 => exact (Kd.R_reads' HO414.out).2.1)
                                  rintro e w150 ⟨v416, rfl, ho0, hb⟩
                                  refine ⟨_, rfl, ?_⟩
                                  have n_ := an (Kd.R_elder' (by exact Kd.R_nw HO_356000.out) (Kd.R_base ho0) hb) (an (Kd.R_elder' (by exact Kd.R_nw HO_365000.out) (Kd.R_base ho0) hb) (an (Kd.R_below (by exact Kd.R_nw HO_370001.out) hb) (an (Kd.R_elder' (by exact Kd.R_nw HO_380000.out) (Kd.R_base ho0) hb) (an (Kd.R_elder' (by exact Kd.R_nw HO405.out) (Kd.R_base ho0) hb) (an (Kd.R_below (by exact Kd.R_nw HO414.out) hb) (an (Kd.R_lower (Kd.R_new' (Kd.R_new' (Kd.R_new' (Kd.R_new' ho0 (Kd.R_lt (by exact Kd.R_nw HO_356000.out))) (Kd.R_lt (by exact Kd.R_nw HO_365000.out))) (Kd.R_lt (by exact Kd.R_nw HO_380000.out))) (Kd.R_lt (by exact Kd.R_nw HO405.out))) (below_size (by exact bel0))) (an (blk_below (blk_nw BK330.out) hb) (an (blk_below (blk_nw BK331.out) hb) (an (blk_below (blk_nw BK355.out) hb) (an (blk_below (blk_nw BK364.out) hb) (an (blk_below (blk_nw BK369.out) hb) (an (blk_below (blk_nw BK379.out) hb) (an (below_step (by exact bel0) hb) (trivial))))))))))))))
                                  clear HO_356000 HO_365000 HO_370001 HO_380000 HO405 HO414 BK330 BK331 BK355 BK364 BK369 BK379 HB
                                  obtain ⟨HO_356000, HO_365000, HO_370001, HO_380000, HO405, HO414, HO417, BK330, BK331, BK355, BK364, BK369, BK379, HB, -⟩ := n_
                                  (try clear hb)
                                  (try clear hb2)
                                  (try clear hk)
                                  (try clear hi)
                                  (try clear ho0)
                                  refine hK.out _ _ ⟨(blk_cell BK330.out 0).trans rfl, (blk_cell BK330.out 1).trans rfl, (blk_cell BK330.out 2).trans rfl, (blk_cell BK330.out 3).trans rfl, (blk_cell BK330.out 4).trans rfl, (blk_cell BK330.out 5).trans rfl, (blk_cell BK331.out 0).trans rfl, (blk_cell BK331.out 1).trans rfl⟩ (fun hHeld => ?_)
                                  clear hK K
                                  refine norm_ (a' := ?_) ?_ ?_
                                  rotate_left
                                  · show Act.put _ (some 99) _ = _
                                    simp only [Act.put, List.setIfInBounds_toArray, List.set_cons_zero, List.set_cons_succ, i64_w, i32_w]
                                    rfl
                                  refine pure_ (i := 5) (N := some 94) (v := ?_) (a' := ?_) #[true, true, true, true, true, true, false, false, false, false, false] rfl rfl (any_of HT_.out (by kernel_rfl)) (fun _ _ _ h => h) (Or.inl ⟨by rfl, ?_⟩) ?_ ?_
                                  rotate_left
                                  · intro w'
                                    go_simp
                                    with_reducible rfl
                                  rotate_left
                                  · simp only [Act.put, List.setIfInBounds_toArray, List.set_cons_zero, List.set_cons_succ, i64_w, i32_w]
                                    rfl
                                  refine pure_ (i := 6) (N := some 100) (v := ?_) (a' := ?_) #[true, true, true, true, true, true, true, false, false, false, false] rfl rfl (any_of HT_.out (by kernel_rfl)) (fun _ _ _ h => h) (Or.inl ⟨by rfl, ?_⟩) ?_ ?_
                                  rotate_left
                                  · intro w'
                                    go_simp
                                    with_reducible rfl
                                  rotate_left
                                  · simp only [Act.put, List.setIfInBounds_toArray, List.set_cons_zero, List.set_cons_succ, i64_w, i32_w]
                                    rfl
                                  refine pure_ (i := 7) (N := some 101) (v := ?_) (a' := ?_) #[true, true, true, true, true, true, true, true, false, false, false] rfl rfl (any_of HT_.out (by kernel_rfl)) (fun _ _ _ h => h) (Or.inl ⟨by rfl, ?_⟩) ?_ ?_
                                  rotate_left
                                  · intro w'
                                    go_simp
                                    with_reducible rfl
                                  rotate_left
                                  · simp only [Act.put, List.setIfInBounds_toArray, List.set_cons_zero, List.set_cons_succ, i64_w, i32_w]
                                    rfl
                                  refine one_ (i := 8) (N := some 15) #[true, true, true, true, true, true, true, true, true, false, false] rfl rfl (one_of HT_.out (by kernel_rfl)) (by decide) (fun K hK => ?_)
                                  refine box_step ?hg (N := 15) ?hd (cs := #[.slice none 0 0, .int .i64 0, .int .i64 0, .int .i64 0, .int .i64 0, .int .i64 0]) (t := 90) ?hr ?_; (case hd => rfl); (case hg => rfl); (case hr => first | (go_simp; done) | (go_simp; rfl))
                                  intro gb424 hg w151 hbox hb
                                  have n_ := an (Kd.R_below (by exact Kd.R_nw HO_356000.out) hb) (an (Kd.R_below (by exact Kd.R_nw HO_365000.out) hb) (an (Kd.R_below (by exact Kd.R_nw HO_370001.out) hb) (an (Kd.R_below (by exact Kd.R_nw HO_380000.out) hb) (an (Kd.R_below (by exact Kd.R_nw HO405.out) hb) (an (Kd.R_below (by exact Kd.R_nw HO414.out) hb) (an (Kd.R_below (by exact Kd.R_nw HO417.out) hb) (an (blk_below (blk_nw BK330.out) hb) (an (blk_below (blk_nw BK331.out) hb) (an (blk_below (blk_nw BK355.out) hb) (an (blk_below (blk_nw BK364.out) hb) (an (blk_below (blk_nw BK369.out) hb) (an (blk_below (blk_nw BK379.out) hb) (an (below_step (by exact bel0) hb) (an (hbox) (an ((by rw [hg]; exact (below_size (by exact bel0)) : w.heap.size ≤ gb424)) (an ((by rw [hg]; exact (below_size (by exact bel0)) : w.heap.size ≤ gb424)) (an ((by rw [hg]; exact Nat.ne_of_lt (blk_lt (blk_nw BK330.out)) : gb330 ≠ gb424)) (an ((by rw [hg]; exact Nat.ne_of_gt (blk_lt (blk_nw BK330.out)) : gb424 ≠ gb330)) (an ((by rw [hg]; exact Nat.ne_of_lt (blk_lt (blk_nw BK331.out)) : gb331 ≠ gb424)) (an ((by rw [hg]; exact Nat.ne_of_gt (blk_lt (blk_nw BK331.out)) : gb424 ≠ gb331)) (an ((by rw [hg]; exact Nat.ne_of_lt (blk_lt (blk_nw BK355.out)) : gb355 ≠ gb424)) (an ((by rw [hg]; exact Nat.ne_of_gt (blk_lt (blk_nw BK355.out)) : gb424 ≠ gb355)) (an ((by rw [hg]; exact Nat.ne_of_lt (blk_lt (blk_nw BK364.out)) : gb364 ≠ gb424)) (an ((by rw [hg]; exact Nat.ne_of_gt (blk_lt (blk_nw BK364.out)) : gb424 ≠ gb364)) (an ((by rw [hg]; exact Nat.ne_of_lt (blk_lt (blk_nw BK369.out)) : gb369 ≠ gb424)) (an ((by rw [hg]; exact Nat.ne_of_gt (blk_lt (blk_nw BK369.out)) : gb424 ≠ gb369)) (an ((by rw [hg]; exact Nat.ne_of_lt (blk_lt (blk_nw BK379.out)) : gb379 ≠ gb424)) (an ((by rw [hg]; exact Nat.ne_of_gt (blk_lt (blk_nw BK379.out)) : gb424 ≠ gb379)) (trivial)))))))))))))))))))))))))))))
                                  clear HO_356000 HO_365000 HO_370001 HO_380000 HO405 HO414 HO417 BK330 BK331 BK355 BK364 BK369 BK379 HB
                                  obtain ⟨HO_356000, HO_365000, HO_370001, HO_380000, HO405, HO414, HO417, BK330, BK331, BK355, BK364, BK369, BK379, HB, BK424, GW424, GE424, NB330_424, NB424_330, NB331_424, NB424_331, NB355_424, NB424_355, NB364_424, NB424_364, NB369_424, NB424_369, NB379_424, NB424_379, -⟩ := n_
                                  clear hb hbox hg
                                  refine hK.out _ _ ⟨(blk_cell BK330.out 0).trans rfl, (blk_cell BK330.out 1).trans rfl, (blk_cell BK330.out 2).trans rfl, (blk_cell BK330.out 3).trans rfl, (blk_cell BK330.out 4).trans rfl, (blk_cell BK330.out 5).trans rfl, (blk_cell BK331.out 0).trans rfl, (blk_cell BK331.out 1).trans rfl⟩ (fun hHeld => ?_)
                                  clear hK K
                                  refine norm_ (a' := ?_) ?_ ?_
                                  rotate_left
                                  · show Act.put _ (some 15) _ = _
                                    simp only [Act.put, List.setIfInBounds_toArray, List.set_cons_zero, List.set_cons_succ, i64_w, i32_w]
                                    rfl
                                  exact norm_ (by simp only [putAll, Act.put, List.setIfInBounds_toArray, List.set_cons_zero, List.set_cons_succ]) (hCont (.slice Ao148 t403.length co148, .slice Ao149 t412.length co149, v416, gb424) _ ⟨hHeld, (by exact Kd.R_nw (Kd.R_mono HO405.out (fun _ hk => ⟨hk.2, ⟨hk.1.1.1.2, ⟨hk.1.1.2, hk.1.2⟩⟩⟩))), (by exact Kd.R_nw (Kd.R_mono HO414.out (fun _ hk => hk.2))), (by exact Kd.R_nw (Kd.R_mono HO417.out (fun _ hk => ⟨hk.2, ⟨hk.1.1.1.2, ⟨hk.1.1.2, hk.1.2⟩⟩⟩))), (by exact Kd.R_nw (Kd.R_mono HO_356000.out (fun _ hk => ⟨hk.1.2, ⟨hk.2, ⟨hk.1.1.1, hk.1.1.2⟩⟩⟩))), (by exact Kd.R_nw (Kd.R_mono HO_365000.out (fun _ hk => ⟨hk.1.2, ⟨hk.2, ⟨hk.1.1.1, hk.1.1.2⟩⟩⟩))), (by exact Kd.R_nw (Kd.R_mono HO_370001.out (fun _ hk => hk.2))), (by exact Kd.R_nw (Kd.R_mono HO_380000.out (fun _ hk => ⟨hk.1.2, ⟨hk.2, ⟨hk.1.1.1, hk.1.1.2⟩⟩⟩))), (by exact blk_nw BK330.out), (by exact blk_nw BK331.out), (by exact blk_nw BK355.out), (by exact blk_nw BK364.out), (by exact blk_nw BK369.out), (by exact blk_nw BK379.out), (by exact blk_nw BK424.out), GW424.out, GE424.out, NB330_424.out, NB424_330.out, NB331_424.out, NB424_331.out, NB355_424.out, NB424_355.out, NB364_424.out, NB424_364.out, NB369_424.out, NB424_369.out, NB379_424.out, NB424_379.out, (by exact bel0)⟩)
                                · skip
                                  refine box_step ?hg (N := 15) ?hd (cs := #[.slice none 0 0, .int .i64 0, .int .i64 0, .int .i64 0, .int .i64 0, .int .i64 0]) (t := 90) ?hr ?_; (case hd => rfl); (case hg => rfl); (case hr => first | (go_simp; done) | (go_simp; rfl))
                                  intro gb424 hg w148 hbox hb
                                  have n_ := an (Kd.R_below (by exact Kd.R_nw HO_356000.out) hb) (an (Kd.R_below (by exact Kd.R_nw HO_365000.out) hb) (an (Kd.R_below (by exact Kd.R_nw HO_370001.out) hb) (an (Kd.R_below (by exact Kd.R_nw HO_380000.out) hb) (an (Kd.R_below (by exact Kd.R_nw HO405.out) hb) (an (Kd.R_below (by exact Kd.R_nw HO414.out) hb) (an (blk_below (blk_nw BK330.out) hb) (an (blk_below (blk_nw BK331.out) hb) (an (blk_below (blk_nw BK355.out) hb) (an (blk_below (blk_nw BK364.out) hb) (an (blk_below (blk_nw BK369.out) hb) (an (blk_below (blk_nw BK379.out) hb) (an (below_step (by exact bel0) hb) (an (hbox) (an ((by rw [hg]; exact (below_size (by exact bel0)) : w.heap.size ≤ gb424)) (an ((by rw [hg]; exact (below_size (by exact bel0)) : w.heap.size ≤ gb424)) (an ((by rw [hg]; exact Nat.ne_of_lt (blk_lt (blk_nw BK330.out)) : gb330 ≠ gb424)) (an ((by rw [hg]; exact Nat.ne_of_gt (blk_lt (blk_nw BK330.out)) : gb424 ≠ gb330)) (an ((by rw [hg]; exact Nat.ne_of_lt (blk_lt (blk_nw BK331.out)) : gb331 ≠ gb424)) (an ((by rw [hg]; exact Nat.ne_of_gt (blk_lt (blk_nw BK331.out)) : gb424 ≠ gb331)) (an ((by rw [hg]; exact Nat.ne_of_lt (blk_lt (blk_nw BK355.out)) : gb355 ≠ gb424)) (an ((by rw [hg]; exact Nat.ne_of_gt (blk_lt (blk_nw BK355.out)) : gb424 ≠ gb355)) (an ((by rw [hg]; exact Nat.ne_of_lt (blk_lt (blk_nw BK364.out)) : gb364 ≠ gb424)) (an ((by rw [hg]; exact Nat.ne_of_gt (blk_lt (blk_nw BK364.out)) : gb424 ≠ gb364)) (an ((by rw [hg]; exact Nat.ne_of_lt (blk_lt (blk_nw BK369.out)) : gb369 ≠ gb424)) (an ((by rw [hg]; exact Nat.ne_of_gt (blk_lt (blk_nw BK369.out)) : gb424 ≠ gb369)) (an ((by rw [hg]; exact Nat.ne_of_lt (blk_lt (blk_nw BK379.out)) : gb379 ≠ gb424)) (an ((by rw [hg]; exact Nat.ne_of_gt (blk_lt (blk_nw BK379.out)) : gb424 ≠ gb379)) (trivial))))))))))))))))))))))))))))
                                  clear HO_356000 HO_365000 HO_370001 HO_380000 HO405 HO414 BK330 BK331 BK355 BK364 BK369 BK379 HB
                                  obtain ⟨HO_356000, HO_365000, HO_370001, HO_380000, HO405, HO414, BK330, BK331, BK355, BK364, BK369, BK379, HB, BK424, GW424, GE424, NB330_424, NB424_330, NB331_424, NB424_331, NB355_424, NB424_355, NB364_424, NB424_364, NB369_424, NB424_369, NB379_424, NB424_379, -⟩ := n_
                                  clear hb hbox hg
                                  obtain ⟨Ao149, co149, eo149⟩ := Kd.R_slice HO405.out
                                  (first | subst eo149 | (injection eo149 with f1_ f2_ f3_; have f4_ := f1_.symm; have f5_ := f3_.symm; clear f1_ f2_ f3_; subst f4_; subst f5_))
                                  obtain ⟨Ao150, co150, eo150⟩ := Kd.R_slice HO414.out
                                  (first | subst eo150 | (injection eo150 with f1_ f2_ f3_; have f4_ := f1_.symm; have f5_ := f3_.symm; clear f1_ f2_ f3_; subst f4_; subst f5_))
                                  refine hK.out _ _ ⟨(blk_cell BK330.out 0).trans rfl, (blk_cell BK330.out 1).trans rfl, (blk_cell BK330.out 2).trans rfl, (blk_cell BK330.out 3).trans rfl, (blk_cell BK330.out 4).trans rfl, (blk_cell BK330.out 5).trans rfl, (blk_cell BK331.out 0).trans rfl, (blk_cell BK331.out 1).trans rfl⟩ (fun hHeld => ?_)
                                  clear hK K
                                  refine norm_ (a' := ?_) ?_ ?_
                                  rotate_left
                                  · show Act.put _ (some 15) _ = _
                                    simp only [Act.put, List.setIfInBounds_toArray, List.set_cons_zero, List.set_cons_succ, i64_w, i32_w]
                                    rfl
                                  refine one_ (i := 4) (N := some 99) #[true, true, true, true, true, false, false, false, true, false, false] rfl rfl (one_of HT_.out (by kernel_rfl)) (by decide) (fun K hK => ?_)
                                  refine goes_ Try.func64 (by kernel_rfl) rfl #[.agg #[.slice Ao149 t403.length co149, .int .i64 t406, .int .i64 t407, .int .i64 t408, .int .i64 t409, .int .i64 t410], .agg #[.int .i64 t411, .slice Ao150 t412.length co150]] (by rfl) rfl rfl (by (try simp only [List.map_toArray, List.map_cons, List.map_nil]); first | done | rfl | (simp only [List.length_drop, List.length_take]; rfl)) ?_
                                  with_reducible refine (impl_NextProbe.calls kj97 _ _ t403 t406 t407 t408 t409 t410 t411 _ _ t412 t415 t418 t419 t420 t421 t422 t423 _ ?side1 ?side2 ?side3 ?side4 A143.out).mono ?_
                                  (case side1 => repeat (first | exact (Kd.R_reads' HO405.out).2.2 | (with_reducible refine Kd.C_alloc ?_ _) | (with_reducible refine Kd.C_drewN ?_ _) | (with_reducible refine Kd.C_drew ?_)))
                                  (case side2 => exact (Kd.R_reads' HO405.out).2.1)
                                  (case side3 => repeat (first | exact (Kd.R_reads' HO414.out).2.2 | (with_reducible refine Kd.C_alloc ?_ _) | (with_reducible refine Kd.C_drewN ?_ _) | (with_reducible refine Kd.C_drew ?_)))
                                  (case side4 => exact (Kd.R_reads' HO414.out).2.1)
                                  rintro e w151 ⟨v416, rfl, ho0, hb⟩
                                  refine ⟨_, rfl, ?_⟩
                                  have n_ := an (Kd.R_elder' (by exact Kd.R_nw HO_356000.out) (Kd.R_base ho0) hb) (an (Kd.R_elder' (by exact Kd.R_nw HO_365000.out) (Kd.R_base ho0) hb) (an (Kd.R_below (by exact Kd.R_nw HO_370001.out) hb) (an (Kd.R_elder' (by exact Kd.R_nw HO_380000.out) (Kd.R_base ho0) hb) (an (Kd.R_elder' (by exact Kd.R_nw HO405.out) (Kd.R_base ho0) hb) (an (Kd.R_below (by exact Kd.R_nw HO414.out) hb) (an (Kd.R_lower (Kd.R_new' (Kd.R_new' (Kd.R_new' (Kd.R_new' ho0 (Kd.R_lt (by exact Kd.R_nw HO_356000.out))) (Kd.R_lt (by exact Kd.R_nw HO_365000.out))) (Kd.R_lt (by exact Kd.R_nw HO_380000.out))) (Kd.R_lt (by exact Kd.R_nw HO405.out))) (below_size (by exact bel0))) (an (blk_below (blk_nw BK330.out) hb) (an (blk_below (blk_nw BK331.out) hb) (an (blk_below (blk_nw BK355.out) hb) (an (blk_below (blk_nw BK364.out) hb) (an (blk_below (blk_nw BK369.out) hb) (an (blk_below (blk_nw BK379.out) hb) (an (blk_below (blk_nw BK424.out) hb) (an (below_step (by exact bel0) hb) (trivial)))))))))))))))
                                  clear HO_356000 HO_365000 HO_370001 HO_380000 HO405 HO414 BK330 BK331 BK355 BK364 BK369 BK379 BK424 HB
                                  obtain ⟨HO_356000, HO_365000, HO_370001, HO_380000, HO405, HO414, HO417, BK330, BK331, BK355, BK364, BK369, BK379, BK424, HB, -⟩ := n_
                                  (try clear hb)
                                  (try clear hb2)
                                  (try clear hk)
                                  (try clear hi)
                                  (try clear ho0)
                                  refine hK.out _ _ ⟨(blk_cell BK330.out 0).trans rfl, (blk_cell BK330.out 1).trans rfl, (blk_cell BK330.out 2).trans rfl, (blk_cell BK330.out 3).trans rfl, (blk_cell BK330.out 4).trans rfl, (blk_cell BK330.out 5).trans rfl, (blk_cell BK331.out 0).trans rfl, (blk_cell BK331.out 1).trans rfl⟩ (fun hHeld => ?_)
                                  clear hK K
                                  refine norm_ (a' := ?_) ?_ ?_
                                  rotate_left
                                  · show Act.put _ (some 99) _ = _
                                    simp only [Act.put, List.setIfInBounds_toArray, List.set_cons_zero, List.set_cons_succ, i64_w, i32_w]
                                    rfl
                                  refine pure_ (i := 5) (N := some 94) (v := ?_) (a' := ?_) #[true, true, true, true, true, true, false, false, true, false, false] rfl rfl (any_of HT_.out (by kernel_rfl)) (fun _ _ _ h => h) (Or.inl ⟨by rfl, ?_⟩) ?_ ?_
                                  rotate_left
                                  · intro w'
                                    go_simp
                                    with_reducible rfl
                                  rotate_left
                                  · simp only [Act.put, List.setIfInBounds_toArray, List.set_cons_zero, List.set_cons_succ, i64_w, i32_w]
                                    rfl
                                  refine pure_ (i := 6) (N := some 100) (v := ?_) (a' := ?_) #[true, true, true, true, true, true, true, false, true, false, false] rfl rfl (any_of HT_.out (by kernel_rfl)) (fun _ _ _ h => h) (Or.inl ⟨by rfl, ?_⟩) ?_ ?_
                                  rotate_left
                                  · intro w'
                                    go_simp
                                    with_reducible rfl
                                  rotate_left
                                  · simp only [Act.put, List.setIfInBounds_toArray, List.set_cons_zero, List.set_cons_succ, i64_w, i32_w]
                                    rfl
                                  refine pure_ (i := 7) (N := some 101) (v := ?_) (a' := ?_) #[true, true, true, true, true, true, true, true, true, false, false] rfl rfl (any_of HT_.out (by kernel_rfl)) (fun _ _ _ h => h) (Or.inl ⟨by rfl, ?_⟩) ?_ ?_
                                  rotate_left
                                  · intro w'
                                    go_simp
                                    with_reducible rfl
                                  rotate_left
                                  · simp only [Act.put, List.setIfInBounds_toArray, List.set_cons_zero, List.set_cons_succ, i64_w, i32_w]
                                    rfl
                                  exact norm_ (by simp only [putAll, Act.put, List.setIfInBounds_toArray, List.set_cons_zero, List.set_cons_succ]) (hCont (.slice Ao149 t403.length co149, .slice Ao150 t412.length co150, v416, gb424) _ ⟨hHeld, (by exact Kd.R_nw (Kd.R_mono HO405.out (fun _ hk => ⟨hk.2, ⟨hk.1.1.1.2, ⟨hk.1.1.2, hk.1.2⟩⟩⟩))), (by exact Kd.R_nw (Kd.R_mono HO414.out (fun _ hk => hk.2))), (by exact Kd.R_nw (Kd.R_mono HO417.out (fun _ hk => ⟨hk.2, ⟨hk.1.1.1.2, ⟨hk.1.1.2, hk.1.2⟩⟩⟩))), (by exact Kd.R_nw (Kd.R_mono HO_356000.out (fun _ hk => ⟨hk.1.2, ⟨hk.2, ⟨hk.1.1.1, hk.1.1.2⟩⟩⟩))), (by exact Kd.R_nw (Kd.R_mono HO_365000.out (fun _ hk => ⟨hk.1.2, ⟨hk.2, ⟨hk.1.1.1, hk.1.1.2⟩⟩⟩))), (by exact Kd.R_nw (Kd.R_mono HO_370001.out (fun _ hk => hk.2))), (by exact Kd.R_nw (Kd.R_mono HO_380000.out (fun _ hk => ⟨hk.1.2, ⟨hk.2, ⟨hk.1.1.1, hk.1.1.2⟩⟩⟩))), (by exact blk_nw BK330.out), (by exact blk_nw BK331.out), (by exact blk_nw BK355.out), (by exact blk_nw BK364.out), (by exact blk_nw BK369.out), (by exact blk_nw BK379.out), (by exact blk_nw BK424.out), GW424.out, GE424.out, NB330_424.out, NB424_330.out, NB331_424.out, NB424_331.out, NB355_424.out, NB424_355.out, NB364_424.out, NB424_364.out, NB369_424.out, NB424_369.out, NB379_424.out, NB424_379.out, (by exact bel0)⟩)
                              · skip
                                refine box_step ?hg (N := 15) ?hd (cs := #[.slice none 0 0, .int .i64 0, .int .i64 0, .int .i64 0, .int .i64 0, .int .i64 0]) (t := 90) ?hr ?_; (case hd => rfl); (case hg => rfl); (case hr => first | (go_simp; done) | (go_simp; rfl))
                                intro gb424 hg w147 hbox hb
                                have n_ := an (Kd.R_below (by exact Kd.R_nw HO_356000.out) hb) (an (Kd.R_below (by exact Kd.R_nw HO_365000.out) hb) (an (Kd.R_below (by exact Kd.R_nw HO_370001.out) hb) (an (Kd.R_below (by exact Kd.R_nw HO_380000.out) hb) (an (Kd.R_below (by exact Kd.R_nw HO405.out) hb) (an (blk_below (blk_nw BK330.out) hb) (an (blk_below (blk_nw BK331.out) hb) (an (blk_below (blk_nw BK355.out) hb) (an (blk_below (blk_nw BK364.out) hb) (an (blk_below (blk_nw BK369.out) hb) (an (blk_below (blk_nw BK379.out) hb) (an (below_step (by exact bel0) hb) (an (hbox) (an ((by rw [hg]; exact (below_size (by exact bel0)) : w.heap.size ≤ gb424)) (an ((by rw [hg]; exact (below_size (by exact bel0)) : w.heap.size ≤ gb424)) (an ((by rw [hg]; exact Nat.ne_of_lt (blk_lt (blk_nw BK330.out)) : gb330 ≠ gb424)) (an ((by rw [hg]; exact Nat.ne_of_gt (blk_lt (blk_nw BK330.out)) : gb424 ≠ gb330)) (an ((by rw [hg]; exact Nat.ne_of_lt (blk_lt (blk_nw BK331.out)) : gb331 ≠ gb424)) (an ((by rw [hg]; exact Nat.ne_of_gt (blk_lt (blk_nw BK331.out)) : gb424 ≠ gb331)) (an ((by rw [hg]; exact Nat.ne_of_lt (blk_lt (blk_nw BK355.out)) : gb355 ≠ gb424)) (an ((by rw [hg]; exact Nat.ne_of_gt (blk_lt (blk_nw BK355.out)) : gb424 ≠ gb355)) (an ((by rw [hg]; exact Nat.ne_of_lt (blk_lt (blk_nw BK364.out)) : gb364 ≠ gb424)) (an ((by rw [hg]; exact Nat.ne_of_gt (blk_lt (blk_nw BK364.out)) : gb424 ≠ gb364)) (an ((by rw [hg]; exact Nat.ne_of_lt (blk_lt (blk_nw BK369.out)) : gb369 ≠ gb424)) (an ((by rw [hg]; exact Nat.ne_of_gt (blk_lt (blk_nw BK369.out)) : gb424 ≠ gb369)) (an ((by rw [hg]; exact Nat.ne_of_lt (blk_lt (blk_nw BK379.out)) : gb379 ≠ gb424)) (an ((by rw [hg]; exact Nat.ne_of_gt (blk_lt (blk_nw BK379.out)) : gb424 ≠ gb379)) (trivial)))))))))))))))))))))))))))
                                clear HO_356000 HO_365000 HO_370001 HO_380000 HO405 BK330 BK331 BK355 BK364 BK369 BK379 HB
                                obtain ⟨HO_356000, HO_365000, HO_370001, HO_380000, HO405, BK330, BK331, BK355, BK364, BK369, BK379, HB, BK424, GW424, GE424, NB330_424, NB424_330, NB331_424, NB424_331, NB355_424, NB424_355, NB364_424, NB424_364, NB369_424, NB424_369, NB379_424, NB424_379, -⟩ := n_
                                clear hb hbox hg
                                refine hK.out _ _ ⟨(blk_cell BK330.out 0).trans rfl, (blk_cell BK330.out 1).trans rfl, (blk_cell BK330.out 2).trans rfl, (blk_cell BK330.out 3).trans rfl, (blk_cell BK330.out 4).trans rfl, (blk_cell BK330.out 5).trans rfl, (blk_cell BK331.out 0).trans rfl, (blk_cell BK331.out 1).trans rfl⟩ (fun hHeld => ?_)
                                clear hK K
                                refine norm_ (a' := ?_) ?_ ?_
                                rotate_left
                                · show Act.put _ (some 15) _ = _
                                  simp only [Act.put, List.setIfInBounds_toArray, List.set_cons_zero, List.set_cons_succ, i64_w, i32_w]
                                  rfl
                                refine one_ (i := 3) (N := some 98) #[true, true, true, true, false, false, false, false, true, false, false] rfl rfl (one_of HT_.out (by kernel_rfl)) (by decide) (fun K hK => ?_)
                                refine goes_ Try.func25 (by kernel_rfl) rfl #[.agg #[.int .i64 a1_0, .slice A1_1 l1_1.length c1_1]] (by rfl) rfl rfl (by (try simp only [List.map_toArray, List.map_cons, List.map_nil]); first | done | rfl | (simp only [List.length_drop, List.length_take]; rfl)) ?_
                                with_reducible refine (laws_toTable.calls kj97 a1_0 _ _ l1_1 t411 t412 _ ?side1 ?side2 A142.out).mono ?_
                                (case side1 => repeat (first | exact (Kd.C_below HR1_1.out HB.out) | (with_reducible refine Kd.C_alloc ?_ _) | (with_reducible refine Kd.C_drewN ?_ _) | (with_reducible refine Kd.C_drew ?_)))
                                (case side2 => exact HC1_1.out)
                                rintro e w148 ⟨v413, rfl, ho0, hb⟩
                                refine ⟨_, rfl, ?_⟩
                                have n_ := an (Kd.R_below (by exact Kd.R_nw HO_356000.out) hb) (an (Kd.R_below (by exact Kd.R_nw HO_365000.out) hb) (an (Kd.R_elder' (by exact Kd.R_nw HO_370001.out) (Kd.R_base ho0) hb) (an (Kd.R_below (by exact Kd.R_nw HO_380000.out) hb) (an (Kd.R_below (by exact Kd.R_nw HO405.out) hb) (an (Kd.R_lower (Kd.R_new' ho0 (Kd.R_lt (by exact Kd.R_nw HO_370001.out))) (below_size (by exact bel0))) (an (blk_below (blk_nw BK330.out) hb) (an (blk_below (blk_nw BK331.out) hb) (an (blk_below (blk_nw BK355.out) hb) (an (blk_below (blk_nw BK364.out) hb) (an (blk_below (blk_nw BK369.out) hb) (an (blk_below (blk_nw BK379.out) hb) (an (blk_below (blk_nw BK424.out) hb) (an (below_step (by exact bel0) hb) (trivial))))))))))))))
                                clear HO_356000 HO_365000 HO_370001 HO_380000 HO405 BK330 BK331 BK355 BK364 BK369 BK379 BK424 HB
                                obtain ⟨HO_356000, HO_365000, HO_370001, HO_380000, HO405, HO414, BK330, BK331, BK355, BK364, BK369, BK379, BK424, HB, -⟩ := n_
                                (try clear hb)
                                (try clear hb2)
                                (try clear hk)
                                (try clear hi)
                                (try clear ho0)
                                obtain ⟨Ao149, co149, eo149⟩ := Kd.R_slice HO405.out
                                (first | subst eo149 | (injection eo149 with f1_ f2_ f3_; have f4_ := f1_.symm; have f5_ := f3_.symm; clear f1_ f2_ f3_; subst f4_; subst f5_))
                                obtain ⟨Ao150, co150, eo150⟩ := Kd.R_slice HO414.out
                                (first | subst eo150 | (injection eo150 with f1_ f2_ f3_; have f4_ := f1_.symm; have f5_ := f3_.symm; clear f1_ f2_ f3_; subst f4_; subst f5_))
                                refine hK.out _ _ ⟨(blk_cell BK330.out 0).trans rfl, (blk_cell BK330.out 1).trans rfl, (blk_cell BK330.out 2).trans rfl, (blk_cell BK330.out 3).trans rfl, (blk_cell BK330.out 4).trans rfl, (blk_cell BK330.out 5).trans rfl, (blk_cell BK331.out 0).trans rfl, (blk_cell BK331.out 1).trans rfl⟩ (fun hHeld => ?_)
                                clear hK K
                                refine norm_ (a' := ?_) ?_ ?_
                                rotate_left
                                · show Act.put _ (some 98) _ = _
                                  simp only [Act.put, List.setIfInBounds_toArray, List.set_cons_zero, List.set_cons_succ, i64_w, i32_w]
                                  rfl
                                refine one_ (i := 4) (N := some 99) #[true, true, true, true, true, false, false, false, true, false, false] rfl rfl (one_of HT_.out (by kernel_rfl)) (by decide) (fun K hK => ?_)
                                refine goes_ Try.func64 (by kernel_rfl) rfl #[.agg #[.slice Ao149 t403.length co149, .int .i64 t406, .int .i64 t407, .int .i64 t408, .int .i64 t409, .int .i64 t410], .agg #[.int .i64 t411, .slice Ao150 t412.length co150]] (by rfl) rfl rfl (by (try simp only [List.map_toArray, List.map_cons, List.map_nil]); first | done | rfl | (simp only [List.length_drop, List.length_take]; rfl)) ?_
                                with_reducible refine (impl_NextProbe.calls kj97 _ _ t403 t406 t407 t408 t409 t410 t411 _ _ t412 t415 t418 t419 t420 t421 t422 t423 _ ?side1 ?side2 ?side3 ?side4 A143.out).mono ?_
                                (case side1 => repeat (first | exact (Kd.R_reads' HO405.out).2.2 | (with_reducible refine Kd.C_alloc ?_ _) | (with_reducible refine Kd.C_drewN ?_ _) | (with_reducible refine Kd.C_drew ?_)))
                                (case side2 => exact (Kd.R_reads' HO405.out).2.1)
                                (case side3 => repeat (first | exact (Kd.R_reads' HO414.out).2.2 | (with_reducible refine Kd.C_alloc ?_ _) | (with_reducible refine Kd.C_drewN ?_ _) | (with_reducible refine Kd.C_drew ?_)))
                                (case side4 => exact (Kd.R_reads' HO414.out).2.1)
                                rintro e w151 ⟨v416, rfl, ho0, hb⟩
                                refine ⟨_, rfl, ?_⟩
                                have n_ := an (Kd.R_elder' (by exact Kd.R_nw HO_356000.out) (Kd.R_base ho0) hb) (an (Kd.R_elder' (by exact Kd.R_nw HO_365000.out) (Kd.R_base ho0) hb) (an (Kd.R_below (by exact Kd.R_nw HO_370001.out) hb) (an (Kd.R_elder' (by exact Kd.R_nw HO_380000.out) (Kd.R_base ho0) hb) (an (Kd.R_elder' (by exact Kd.R_nw HO405.out) (Kd.R_base ho0) hb) (an (Kd.R_below (by exact Kd.R_nw HO414.out) hb) (an (Kd.R_lower (Kd.R_new' (Kd.R_new' (Kd.R_new' (Kd.R_new' ho0 (Kd.R_lt (by exact Kd.R_nw HO_356000.out))) (Kd.R_lt (by exact Kd.R_nw HO_365000.out))) (Kd.R_lt (by exact Kd.R_nw HO_380000.out))) (Kd.R_lt (by exact Kd.R_nw HO405.out))) (below_size (by exact bel0))) (an (blk_below (blk_nw BK330.out) hb) (an (blk_below (blk_nw BK331.out) hb) (an (blk_below (blk_nw BK355.out) hb) (an (blk_below (blk_nw BK364.out) hb) (an (blk_below (blk_nw BK369.out) hb) (an (blk_below (blk_nw BK379.out) hb) (an (blk_below (blk_nw BK424.out) hb) (an (below_step (by exact bel0) hb) (trivial)))))))))))))))
                                clear HO_356000 HO_365000 HO_370001 HO_380000 HO405 HO414 BK330 BK331 BK355 BK364 BK369 BK379 BK424 HB
                                obtain ⟨HO_356000, HO_365000, HO_370001, HO_380000, HO405, HO414, HO417, BK330, BK331, BK355, BK364, BK369, BK379, BK424, HB, -⟩ := n_
                                (try clear hb)
                                (try clear hb2)
                                (try clear hk)
                                (try clear hi)
                                (try clear ho0)
                                refine hK.out _ _ ⟨(blk_cell BK330.out 0).trans rfl, (blk_cell BK330.out 1).trans rfl, (blk_cell BK330.out 2).trans rfl, (blk_cell BK330.out 3).trans rfl, (blk_cell BK330.out 4).trans rfl, (blk_cell BK330.out 5).trans rfl, (blk_cell BK331.out 0).trans rfl, (blk_cell BK331.out 1).trans rfl⟩ (fun hHeld => ?_)
                                clear hK K
                                refine norm_ (a' := ?_) ?_ ?_
                                rotate_left
                                · show Act.put _ (some 99) _ = _
                                  simp only [Act.put, List.setIfInBounds_toArray, List.set_cons_zero, List.set_cons_succ, i64_w, i32_w]
                                  rfl
                                refine pure_ (i := 5) (N := some 94) (v := ?_) (a' := ?_) #[true, true, true, true, true, true, false, false, true, false, false] rfl rfl (any_of HT_.out (by kernel_rfl)) (fun _ _ _ h => h) (Or.inl ⟨by rfl, ?_⟩) ?_ ?_
                                rotate_left
                                · intro w'
                                  go_simp
                                  with_reducible rfl
                                rotate_left
                                · simp only [Act.put, List.setIfInBounds_toArray, List.set_cons_zero, List.set_cons_succ, i64_w, i32_w]
                                  rfl
                                refine pure_ (i := 6) (N := some 100) (v := ?_) (a' := ?_) #[true, true, true, true, true, true, true, false, true, false, false] rfl rfl (any_of HT_.out (by kernel_rfl)) (fun _ _ _ h => h) (Or.inl ⟨by rfl, ?_⟩) ?_ ?_
                                rotate_left
                                · intro w'
                                  go_simp
                                  with_reducible rfl
                                rotate_left
                                · simp only [Act.put, List.setIfInBounds_toArray, List.set_cons_zero, List.set_cons_succ, i64_w, i32_w]
                                  rfl
                                refine pure_ (i := 7) (N := some 101) (v := ?_) (a' := ?_) #[true, true, true, true, true, true, true, true, true, false, false] rfl rfl (any_of HT_.out (by kernel_rfl)) (fun _ _ _ h => h) (Or.inl ⟨by rfl, ?_⟩) ?_ ?_
                                rotate_left
                                · intro w'
                                  go_simp
                                  with_reducible rfl
                                rotate_left
                                · simp only [Act.put, List.setIfInBounds_toArray, List.set_cons_zero, List.set_cons_succ, i64_w, i32_w]
                                  rfl
                                exact norm_ (by simp only [putAll, Act.put, List.setIfInBounds_toArray, List.set_cons_zero, List.set_cons_succ]) (hCont (.slice Ao149 t403.length co149, .slice Ao150 t412.length co150, v416, gb424) _ ⟨hHeld, (by exact Kd.R_nw (Kd.R_mono HO405.out (fun _ hk => ⟨hk.2, ⟨hk.1.1.1.2, ⟨hk.1.1.2, hk.1.2⟩⟩⟩))), (by exact Kd.R_nw (Kd.R_mono HO414.out (fun _ hk => hk.2))), (by exact Kd.R_nw (Kd.R_mono HO417.out (fun _ hk => ⟨hk.2, ⟨hk.1.1.1.2, ⟨hk.1.1.2, hk.1.2⟩⟩⟩))), (by exact Kd.R_nw (Kd.R_mono HO_356000.out (fun _ hk => ⟨hk.1.2, ⟨hk.2, ⟨hk.1.1.1, hk.1.1.2⟩⟩⟩))), (by exact Kd.R_nw (Kd.R_mono HO_365000.out (fun _ hk => ⟨hk.1.2, ⟨hk.2, ⟨hk.1.1.1, hk.1.1.2⟩⟩⟩))), (by exact Kd.R_nw (Kd.R_mono HO_370001.out (fun _ hk => hk.2))), (by exact Kd.R_nw (Kd.R_mono HO_380000.out (fun _ hk => ⟨hk.1.2, ⟨hk.2, ⟨hk.1.1.1, hk.1.1.2⟩⟩⟩))), (by exact blk_nw BK330.out), (by exact blk_nw BK331.out), (by exact blk_nw BK355.out), (by exact blk_nw BK364.out), (by exact blk_nw BK369.out), (by exact blk_nw BK379.out), (by exact blk_nw BK424.out), GW424.out, GE424.out, NB330_424.out, NB424_330.out, NB331_424.out, NB424_331.out, NB355_424.out, NB424_355.out, NB364_424.out, NB424_364.out, NB369_424.out, NB424_369.out, NB379_424.out, NB424_379.out, (by exact bel0)⟩)
                            · skip
                              refine box_step ?hg (N := 15) ?hd (cs := #[.slice none 0 0, .int .i64 0, .int .i64 0, .int .i64 0, .int .i64 0, .int .i64 0]) (t := 90) ?hr ?_; (case hd => rfl); (case hg => rfl); (case hr => first | (go_simp; done) | (go_simp; rfl))
                              intro gb424 hg w146 hbox hb
                              have n_ := an (Kd.R_below (by exact Kd.R_nw HO_356000.out) hb) (an (Kd.R_below (by exact Kd.R_nw HO_365000.out) hb) (an (Kd.R_below (by exact Kd.R_nw HO_370001.out) hb) (an (Kd.R_below (by exact Kd.R_nw HO_380000.out) hb) (an (blk_below (blk_nw BK330.out) hb) (an (blk_below (blk_nw BK331.out) hb) (an (blk_below (blk_nw BK355.out) hb) (an (blk_below (blk_nw BK364.out) hb) (an (blk_below (blk_nw BK369.out) hb) (an (blk_below (blk_nw BK379.out) hb) (an (below_step (by exact bel0) hb) (an (hbox) (an ((by rw [hg]; exact (below_size (by exact bel0)) : w.heap.size ≤ gb424)) (an ((by rw [hg]; exact (below_size (by exact bel0)) : w.heap.size ≤ gb424)) (an ((by rw [hg]; exact Nat.ne_of_lt (blk_lt (blk_nw BK330.out)) : gb330 ≠ gb424)) (an ((by rw [hg]; exact Nat.ne_of_gt (blk_lt (blk_nw BK330.out)) : gb424 ≠ gb330)) (an ((by rw [hg]; exact Nat.ne_of_lt (blk_lt (blk_nw BK331.out)) : gb331 ≠ gb424)) (an ((by rw [hg]; exact Nat.ne_of_gt (blk_lt (blk_nw BK331.out)) : gb424 ≠ gb331)) (an ((by rw [hg]; exact Nat.ne_of_lt (blk_lt (blk_nw BK355.out)) : gb355 ≠ gb424)) (an ((by rw [hg]; exact Nat.ne_of_gt (blk_lt (blk_nw BK355.out)) : gb424 ≠ gb355)) (an ((by rw [hg]; exact Nat.ne_of_lt (blk_lt (blk_nw BK364.out)) : gb364 ≠ gb424)) (an ((by rw [hg]; exact Nat.ne_of_gt (blk_lt (blk_nw BK364.out)) : gb424 ≠ gb364)) (an ((by rw [hg]; exact Nat.ne_of_lt (blk_lt (blk_nw BK369.out)) : gb369 ≠ gb424)) (an ((by rw [hg]; exact Nat.ne_of_gt (blk_lt (blk_nw BK369.out)) : gb424 ≠ gb369)) (an ((by rw [hg]; exact Nat.ne_of_lt (blk_lt (blk_nw BK379.out)) : gb379 ≠ gb424)) (an ((by rw [hg]; exact Nat.ne_of_gt (blk_lt (blk_nw BK379.out)) : gb424 ≠ gb379)) (trivial))))))))))))))))))))))))))
                              clear HO_356000 HO_365000 HO_370001 HO_380000 BK330 BK331 BK355 BK364 BK369 BK379 HB
                              obtain ⟨HO_356000, HO_365000, HO_370001, HO_380000, BK330, BK331, BK355, BK364, BK369, BK379, HB, BK424, GW424, GE424, NB330_424, NB424_330, NB331_424, NB424_331, NB355_424, NB424_355, NB364_424, NB424_364, NB369_424, NB424_369, NB379_424, NB424_379, -⟩ := n_
                              clear hb hbox hg
                              refine hK.out _ _ ⟨(blk_cell BK330.out 0).trans rfl, (blk_cell BK330.out 1).trans rfl, (blk_cell BK330.out 2).trans rfl, (blk_cell BK330.out 3).trans rfl, (blk_cell BK330.out 4).trans rfl, (blk_cell BK330.out 5).trans rfl, (blk_cell BK331.out 0).trans rfl, (blk_cell BK331.out 1).trans rfl⟩ (fun hHeld => ?_)
                              clear hK K
                              refine norm_ (a' := ?_) ?_ ?_
                              rotate_left
                              · show Act.put _ (some 15) _ = _
                                simp only [Act.put, List.setIfInBounds_toArray, List.set_cons_zero, List.set_cons_succ, i64_w, i32_w]
                                rfl
                              refine one_ (i := 1) (N := some 96) #[true, true, true, false, false, false, false, false, true, false, false] rfl rfl (one_of HT_.out (by kernel_rfl)) (by decide) (fun K hK => ?_)
                              refine goes_ Try.func58 (by kernel_rfl) rfl #[.agg #[.slice A0_0 l0_0.length c0_0, .int .i64 a0_1, .int .i64 a0_2, .int .i64 a0_3, .int .i64 a0_4, .int .i64 a0_5]] (by rfl) rfl rfl (by (try simp only [List.map_toArray, List.map_cons, List.map_nil]); first | done | rfl | (simp only [List.length_drop, List.length_take]; rfl)) ?_
                              with_reducible refine (laws_toProber.calls kj97 _ _ l0_0 a0_1 a0_2 a0_3 a0_4 a0_5 t403 t406 t407 t408 t409 t410 _ ?side1 ?side2 A141.out).mono ?_
                              (case side1 => repeat (first | exact (Kd.C_below HR0_0.out HB.out) | (with_reducible refine Kd.C_alloc ?_ _) | (with_reducible refine Kd.C_drewN ?_ _) | (with_reducible refine Kd.C_drew ?_)))
                              (case side2 => exact HC0_0.out)
                              rintro e w147 ⟨v404, rfl, ho0, hb⟩
                              refine ⟨_, rfl, ?_⟩
                              have n_ := an (Kd.R_elder' (by exact Kd.R_nw HO_356000.out) (Kd.R_base ho0) hb) (an (Kd.R_elder' (by exact Kd.R_nw HO_365000.out) (Kd.R_base ho0) hb) (an (Kd.R_below (by exact Kd.R_nw HO_370001.out) hb) (an (Kd.R_elder' (by exact Kd.R_nw HO_380000.out) (Kd.R_base ho0) hb) (an (Kd.R_lower (Kd.R_new' (Kd.R_new' (Kd.R_new' ho0 (Kd.R_lt (by exact Kd.R_nw HO_356000.out))) (Kd.R_lt (by exact Kd.R_nw HO_365000.out))) (Kd.R_lt (by exact Kd.R_nw HO_380000.out))) (below_size (by exact bel0))) (an (blk_below (blk_nw BK330.out) hb) (an (blk_below (blk_nw BK331.out) hb) (an (blk_below (blk_nw BK355.out) hb) (an (blk_below (blk_nw BK364.out) hb) (an (blk_below (blk_nw BK369.out) hb) (an (blk_below (blk_nw BK379.out) hb) (an (blk_below (blk_nw BK424.out) hb) (an (below_step (by exact bel0) hb) (trivial)))))))))))))
                              clear HO_356000 HO_365000 HO_370001 HO_380000 BK330 BK331 BK355 BK364 BK369 BK379 BK424 HB
                              obtain ⟨HO_356000, HO_365000, HO_370001, HO_380000, HO405, BK330, BK331, BK355, BK364, BK369, BK379, BK424, HB, -⟩ := n_
                              (try clear hb)
                              (try clear hb2)
                              (try clear hk)
                              (try clear hi)
                              (try clear ho0)
                              refine hK.out _ _ ⟨(blk_cell BK330.out 0).trans rfl, (blk_cell BK330.out 1).trans rfl, (blk_cell BK330.out 2).trans rfl, (blk_cell BK330.out 3).trans rfl, (blk_cell BK330.out 4).trans rfl, (blk_cell BK330.out 5).trans rfl, (blk_cell BK331.out 0).trans rfl, (blk_cell BK331.out 1).trans rfl⟩ (fun hHeld => ?_)
                              clear hK K
                              refine norm_ (a' := ?_) ?_ ?_
                              rotate_left
                              · show Act.put _ (some 96) _ = _
                                simp only [Act.put, List.setIfInBounds_toArray, List.set_cons_zero, List.set_cons_succ, i64_w, i32_w]
                                rfl
                              refine one_ (i := 3) (N := some 98) #[true, true, true, true, false, false, false, false, true, false, false] rfl rfl (one_of HT_.out (by kernel_rfl)) (by decide) (fun K hK => ?_)
                              refine goes_ Try.func25 (by kernel_rfl) rfl #[.agg #[.int .i64 a1_0, .slice A1_1 l1_1.length c1_1]] (by rfl) rfl rfl (by (try simp only [List.map_toArray, List.map_cons, List.map_nil]); first | done | rfl | (simp only [List.length_drop, List.length_take]; rfl)) ?_
                              with_reducible refine (laws_toTable.calls kj97 a1_0 _ _ l1_1 t411 t412 _ ?side1 ?side2 A142.out).mono ?_
                              (case side1 => repeat (first | exact (Kd.C_below HR1_1.out HB.out) | (with_reducible refine Kd.C_alloc ?_ _) | (with_reducible refine Kd.C_drewN ?_ _) | (with_reducible refine Kd.C_drew ?_)))
                              (case side2 => exact HC1_1.out)
                              rintro e w148 ⟨v413, rfl, ho0, hb⟩
                              refine ⟨_, rfl, ?_⟩
                              have n_ := an (Kd.R_below (by exact Kd.R_nw HO_356000.out) hb) (an (Kd.R_below (by exact Kd.R_nw HO_365000.out) hb) (an (Kd.R_elder' (by exact Kd.R_nw HO_370001.out) (Kd.R_base ho0) hb) (an (Kd.R_below (by exact Kd.R_nw HO_380000.out) hb) (an (Kd.R_below (by exact Kd.R_nw HO405.out) hb) (an (Kd.R_lower (Kd.R_new' ho0 (Kd.R_lt (by exact Kd.R_nw HO_370001.out))) (below_size (by exact bel0))) (an (blk_below (blk_nw BK330.out) hb) (an (blk_below (blk_nw BK331.out) hb) (an (blk_below (blk_nw BK355.out) hb) (an (blk_below (blk_nw BK364.out) hb) (an (blk_below (blk_nw BK369.out) hb) (an (blk_below (blk_nw BK379.out) hb) (an (blk_below (blk_nw BK424.out) hb) (an (below_step (by exact bel0) hb) (trivial))))))))))))))
                              clear HO_356000 HO_365000 HO_370001 HO_380000 HO405 BK330 BK331 BK355 BK364 BK369 BK379 BK424 HB
                              obtain ⟨HO_356000, HO_365000, HO_370001, HO_380000, HO405, HO414, BK330, BK331, BK355, BK364, BK369, BK379, BK424, HB, -⟩ := n_
                              (try clear hb)
                              (try clear hb2)
                              (try clear hk)
                              (try clear hi)
                              (try clear ho0)
                              obtain ⟨Ao149, co149, eo149⟩ := Kd.R_slice HO405.out
                              (first | subst eo149 | (injection eo149 with f1_ f2_ f3_; have f4_ := f1_.symm; have f5_ := f3_.symm; clear f1_ f2_ f3_; subst f4_; subst f5_))
                              obtain ⟨Ao150, co150, eo150⟩ := Kd.R_slice HO414.out
                              (first | subst eo150 | (injection eo150 with f1_ f2_ f3_; have f4_ := f1_.symm; have f5_ := f3_.symm; clear f1_ f2_ f3_; subst f4_; subst f5_))
                              refine hK.out _ _ ⟨(blk_cell BK330.out 0).trans rfl, (blk_cell BK330.out 1).trans rfl, (blk_cell BK330.out 2).trans rfl, (blk_cell BK330.out 3).trans rfl, (blk_cell BK330.out 4).trans rfl, (blk_cell BK330.out 5).trans rfl, (blk_cell BK331.out 0).trans rfl, (blk_cell BK331.out 1).trans rfl⟩ (fun hHeld => ?_)
                              clear hK K
                              refine norm_ (a' := ?_) ?_ ?_
                              rotate_left
                              · show Act.put _ (some 98) _ = _
                                simp only [Act.put, List.setIfInBounds_toArray, List.set_cons_zero, List.set_cons_succ, i64_w, i32_w]
                                rfl
                              refine one_ (i := 4) (N := some 99) #[true, true, true, true, true, false, false, false, true, false, false] rfl rfl (one_of HT_.out (by kernel_rfl)) (by decide) (fun K hK => ?_)
                              refine goes_ Try.func64 (by kernel_rfl) rfl #[.agg #[.slice Ao149 t403.length co149, .int .i64 t406, .int .i64 t407, .int .i64 t408, .int .i64 t409, .int .i64 t410], .agg #[.int .i64 t411, .slice Ao150 t412.length co150]] (by rfl) rfl rfl (by (try simp only [List.map_toArray, List.map_cons, List.map_nil]); first | done | rfl | (simp only [List.length_drop, List.length_take]; rfl)) ?_
                              with_reducible refine (impl_NextProbe.calls kj97 _ _ t403 t406 t407 t408 t409 t410 t411 _ _ t412 t415 t418 t419 t420 t421 t422 t423 _ ?side1 ?side2 ?side3 ?side4 A143.out).mono ?_
                              (case side1 => repeat (first | exact (Kd.R_reads' HO405.out).2.2 | (with_reducible refine Kd.C_alloc ?_ _) | (with_reducible refine Kd.C_drewN ?_ _) | (with_reducible refine Kd.C_drew ?_)))
                              (case side2 => exact (Kd.R_reads' HO405.out).2.1)
                              (case side3 => repeat (first | exact (Kd.R_reads' HO414.out).2.2 | (with_reducible refine Kd.C_alloc ?_ _) | (with_reducible refine Kd.C_drewN ?_ _) | (with_reducible refine Kd.C_drew ?_)))
                              (case side4 => exact (Kd.R_reads' HO414.out).2.1)
                              rintro e w151 ⟨v416, rfl, ho0, hb⟩
                              refine ⟨_, rfl, ?_⟩
                              have n_ := an (Kd.R_elder' (by exact Kd.R_nw HO_356000.out) (Kd.R_base ho0) hb) (an (Kd.R_elder' (by exact Kd.R_nw HO_365000.out) (Kd.R_base ho0) hb) (an (Kd.R_below (by exact Kd.R_nw HO_370001.out) hb) (an (Kd.R_elder' (by exact Kd.R_nw HO_380000.out) (Kd.R_base ho0) hb) (an (Kd.R_elder' (by exact Kd.R_nw HO405.out) (Kd.R_base ho0) hb) (an (Kd.R_below (by exact Kd.R_nw HO414.out) hb) (an (Kd.R_lower (Kd.R_new' (Kd.R_new' (Kd.R_new' (Kd.R_new' ho0 (Kd.R_lt (by exact Kd.R_nw HO_356000.out))) (Kd.R_lt (by exact Kd.R_nw HO_365000.out))) (Kd.R_lt (by exact Kd.R_nw HO_380000.out))) (Kd.R_lt (by exact Kd.R_nw HO405.out))) (below_size (by exact bel0))) (an (blk_below (blk_nw BK330.out) hb) (an (blk_below (blk_nw BK331.out) hb) (an (blk_below (blk_nw BK355.out) hb) (an (blk_below (blk_nw BK364.out) hb) (an (blk_below (blk_nw BK369.out) hb) (an (blk_below (blk_nw BK379.out) hb) (an (blk_below (blk_nw BK424.out) hb) (an (below_step (by exact bel0) hb) (trivial)))))))))))))))
                              clear HO_356000 HO_365000 HO_370001 HO_380000 HO405 HO414 BK330 BK331 BK355 BK364 BK369 BK379 BK424 HB
                              obtain ⟨HO_356000, HO_365000, HO_370001, HO_380000, HO405, HO414, HO417, BK330, BK331, BK355, BK364, BK369, BK379, BK424, HB, -⟩ := n_
                              (try clear hb)
                              (try clear hb2)
                              (try clear hk)
                              (try clear hi)
                              (try clear ho0)
                              refine hK.out _ _ ⟨(blk_cell BK330.out 0).trans rfl, (blk_cell BK330.out 1).trans rfl, (blk_cell BK330.out 2).trans rfl, (blk_cell BK330.out 3).trans rfl, (blk_cell BK330.out 4).trans rfl, (blk_cell BK330.out 5).trans rfl, (blk_cell BK331.out 0).trans rfl, (blk_cell BK331.out 1).trans rfl⟩ (fun hHeld => ?_)
                              clear hK K
                              refine norm_ (a' := ?_) ?_ ?_
                              rotate_left
                              · show Act.put _ (some 99) _ = _
                                simp only [Act.put, List.setIfInBounds_toArray, List.set_cons_zero, List.set_cons_succ, i64_w, i32_w]
                                rfl
                              refine pure_ (i := 5) (N := some 94) (v := ?_) (a' := ?_) #[true, true, true, true, true, true, false, false, true, false, false] rfl rfl (any_of HT_.out (by kernel_rfl)) (fun _ _ _ h => h) (Or.inl ⟨by rfl, ?_⟩) ?_ ?_
                              rotate_left
                              · intro w'
                                go_simp
                                with_reducible rfl
                              rotate_left
                              · simp only [Act.put, List.setIfInBounds_toArray, List.set_cons_zero, List.set_cons_succ, i64_w, i32_w]
                                rfl
                              refine pure_ (i := 6) (N := some 100) (v := ?_) (a' := ?_) #[true, true, true, true, true, true, true, false, true, false, false] rfl rfl (any_of HT_.out (by kernel_rfl)) (fun _ _ _ h => h) (Or.inl ⟨by rfl, ?_⟩) ?_ ?_
                              rotate_left
                              · intro w'
                                go_simp
                                with_reducible rfl
                              rotate_left
                              · simp only [Act.put, List.setIfInBounds_toArray, List.set_cons_zero, List.set_cons_succ, i64_w, i32_w]
                                rfl
                              refine pure_ (i := 7) (N := some 101) (v := ?_) (a' := ?_) #[true, true, true, true, true, true, true, true, true, false, false] rfl rfl (any_of HT_.out (by kernel_rfl)) (fun _ _ _ h => h) (Or.inl ⟨by rfl, ?_⟩) ?_ ?_
                              rotate_left
                              · intro w'
                                go_simp
                                with_reducible rfl
                              rotate_left
                              · simp only [Act.put, List.setIfInBounds_toArray, List.set_cons_zero, List.set_cons_succ, i64_w, i32_w]
                                rfl
                              exact norm_ (by simp only [putAll, Act.put, List.setIfInBounds_toArray, List.set_cons_zero, List.set_cons_succ]) (hCont (.slice Ao149 t403.length co149, .slice Ao150 t412.length co150, v416, gb424) _ ⟨hHeld, (by exact Kd.R_nw (Kd.R_mono HO405.out (fun _ hk => ⟨hk.2, ⟨hk.1.1.1.2, ⟨hk.1.1.2, hk.1.2⟩⟩⟩))), (by exact Kd.R_nw (Kd.R_mono HO414.out (fun _ hk => hk.2))), (by exact Kd.R_nw (Kd.R_mono HO417.out (fun _ hk => ⟨hk.2, ⟨hk.1.1.1.2, ⟨hk.1.1.2, hk.1.2⟩⟩⟩))), (by exact Kd.R_nw (Kd.R_mono HO_356000.out (fun _ hk => ⟨hk.1.2, ⟨hk.2, ⟨hk.1.1.1, hk.1.1.2⟩⟩⟩))), (by exact Kd.R_nw (Kd.R_mono HO_365000.out (fun _ hk => ⟨hk.1.2, ⟨hk.2, ⟨hk.1.1.1, hk.1.1.2⟩⟩⟩))), (by exact Kd.R_nw (Kd.R_mono HO_370001.out (fun _ hk => hk.2))), (by exact Kd.R_nw (Kd.R_mono HO_380000.out (fun _ hk => ⟨hk.1.2, ⟨hk.2, ⟨hk.1.1.1, hk.1.1.2⟩⟩⟩))), (by exact blk_nw BK330.out), (by exact blk_nw BK331.out), (by exact blk_nw BK355.out), (by exact blk_nw BK364.out), (by exact blk_nw BK369.out), (by exact blk_nw BK379.out), (by exact blk_nw BK424.out), GW424.out, GE424.out, NB330_424.out, NB424_330.out, NB331_424.out, NB424_331.out, NB355_424.out, NB424_355.out, NB364_424.out, NB424_364.out, NB369_424.out, NB424_369.out, NB379_424.out, NB424_379.out, (by exact bel0)⟩)
                          rintro ⟨v404, v413, v416, gb424⟩ w152 ⟨hS_, h0_, h1_, h2_, h3_, h4_, h5_, h6_, h7_, h8_, h9_, h10_, h11_, h12_, h13_, h14_, h15_, h16_, h17_, h18_, h19_, h20_, h21_, h22_, h23_, h24_, h25_, h26_, h27_, h28_⟩
                          have n0_ : Aside0 (Kd.R (Kd.int .i64) 3 w152 w.heap.size (fun k_ => some k_ ≠ (v416 : Value).ownBlock ∧ some k_ ≠ (.slice Ao30 t346.length co30 : Value).ownBlock ∧ some k_ ≠ (.slice Ao42 t396.length co42 : Value).ownBlock ∧ some k_ ≠ (.slice Ao60 t370.length co60 : Value).ownBlock) v404 t403) := ⟨h0_⟩
                          have n1_ : Aside0 (Kd.R k82 82 w152 w.heap.size (fun k_ => some k_ ≠ (.slice Ao56 t398.length co56 : Value).ownBlock) v413 t412) := ⟨h1_⟩
                          have n2_ : Aside0 (Kd.R (Kd.int .i64) 3 w152 w.heap.size (fun k_ => some k_ ≠ (v404 : Value).ownBlock ∧ some k_ ≠ (.slice Ao30 t346.length co30 : Value).ownBlock ∧ some k_ ≠ (.slice Ao42 t396.length co42 : Value).ownBlock ∧ some k_ ≠ (.slice Ao60 t370.length co60 : Value).ownBlock) v416 t415) := ⟨h2_⟩
                          have n3_ : Aside0 (Kd.R (Kd.int .i64) 3 w152 w.heap.size (fun k_ => some k_ ≠ (v404 : Value).ownBlock ∧ some k_ ≠ (v416 : Value).ownBlock ∧ some k_ ≠ (.slice Ao42 t396.length co42 : Value).ownBlock ∧ some k_ ≠ (.slice Ao60 t370.length co60 : Value).ownBlock) (.slice Ao30 t346.length co30) t346) := ⟨h3_⟩
                          have n4_ : Aside0 (Kd.R (Kd.int .i64) 3 w152 w.heap.size (fun k_ => some k_ ≠ (v404 : Value).ownBlock ∧ some k_ ≠ (v416 : Value).ownBlock ∧ some k_ ≠ (.slice Ao30 t346.length co30 : Value).ownBlock ∧ some k_ ≠ (.slice Ao60 t370.length co60 : Value).ownBlock) (.slice Ao42 t396.length co42) t396) := ⟨h4_⟩
                          have n5_ : Aside0 (Kd.R k82 82 w152 w.heap.size (fun k_ => some k_ ≠ (v413 : Value).ownBlock) (.slice Ao56 t398.length co56) t398) := ⟨h5_⟩
                          have n6_ : Aside0 (Kd.R (Kd.int .i64) 3 w152 w.heap.size (fun k_ => some k_ ≠ (v404 : Value).ownBlock ∧ some k_ ≠ (v416 : Value).ownBlock ∧ some k_ ≠ (.slice Ao30 t346.length co30 : Value).ownBlock ∧ some k_ ≠ (.slice Ao42 t396.length co42 : Value).ownBlock) (.slice Ao60 t370.length co60) t401) := ⟨h6_⟩
                          have n7_ : Aside0 (w152.heap[gb330]? = some (.cells #[.slice A0_0 l0_0.length c0_0, .int .i64 a0_1, .int .i64 a0_2, .int .i64 a0_3, .int .i64 a0_4, .int .i64 a0_5] 88 (0, 0))) := ⟨h7_⟩
                          have n8_ : Aside0 (w152.heap[gb331]? = some (.cells #[.int .i64 a1_0, .slice A1_1 l1_1.length c1_1] 37 (0, 0))) := ⟨h8_⟩
                          have n9_ : Aside0 (w152.heap[gb355]? = some (.cells #[.slice Ao30 t346.length co30, .int .i64 t349, .int .i64 t350, .int .i64 t351, .int .i64 t352, .int .i64 t353] 90 (0, 0))) := ⟨h9_⟩
                          have n10_ : Aside0 (w152.heap[gb364]? = some (.cells #[.slice Ao42 t396.length co42, .int .i64 t359, .int .i64 t360, .int .i64 t361, .int .i64 t362, .int .i64 t363] 90 (0, 0))) := ⟨h10_⟩
                          have n11_ : Aside0 (w152.heap[gb369]? = some (.cells #[.int .i64 t365, .slice Ao56 t398.length co56] 41 (0, 0))) := ⟨h11_⟩
                          have n12_ : Aside0 (w152.heap[gb379]? = some (.cells #[.slice Ao60 t370.length co60, .int .i64 t373, .int .i64 t374, .int .i64 t375, .int .i64 t376, .int .i64 t377] 90 (0, 0))) := ⟨h12_⟩
                          have n13_ : Aside0 (w152.heap[gb424]? = some (.cells #[.slice none 0 0, .int .i64 0, .int .i64 0, .int .i64 0, .int .i64 0, .int .i64 0] 90 (0, 0))) := ⟨h13_⟩
                          have n14_ : Aside0 (w.heap.size ≤ gb424) := ⟨h14_⟩
                          have n15_ : Aside0 (w.heap.size ≤ gb424) := ⟨h15_⟩
                          have n16_ : Aside0 (gb330 ≠ gb424) := ⟨h16_⟩
                          have n17_ : Aside0 (gb424 ≠ gb330) := ⟨h17_⟩
                          have n18_ : Aside0 (gb331 ≠ gb424) := ⟨h18_⟩
                          have n19_ : Aside0 (gb424 ≠ gb331) := ⟨h19_⟩
                          have n20_ : Aside0 (gb355 ≠ gb424) := ⟨h20_⟩
                          have n21_ : Aside0 (gb424 ≠ gb355) := ⟨h21_⟩
                          have n22_ : Aside0 (gb364 ≠ gb424) := ⟨h22_⟩
                          have n23_ : Aside0 (gb424 ≠ gb364) := ⟨h23_⟩
                          have n24_ : Aside0 (gb369 ≠ gb424) := ⟨h24_⟩
                          have n25_ : Aside0 (gb424 ≠ gb369) := ⟨h25_⟩
                          have n26_ : Aside0 (gb379 ≠ gb424) := ⟨h26_⟩
                          have n27_ : Aside0 (gb424 ≠ gb379) := ⟨h27_⟩
                          have n28_ : Aside0 (Below w.heap.size w w152) := ⟨h28_⟩
                          clear HO_356000
                          clear HO_365000
                          clear HO_370001
                          clear HO_380000
                          clear BK330
                          clear BK331
                          clear BK355
                          clear BK364
                          clear BK369
                          clear BK379
                          clear HB
                          clear h0_ h1_ h2_ h3_ h4_ h5_ h6_ h7_ h8_ h9_ h10_ h11_ h12_ h13_ h14_ h15_ h16_ h17_ h18_ h19_ h20_ h21_ h22_ h23_ h24_ h25_ h26_ h27_ h28_
                          have HO405 := n0_
                          have HO414 := n1_
                          have HO417 := n2_
                          have HO_356000 := n3_
                          have HO_365000 := n4_
                          have HO_370001 := n5_
                          have HO_380000 := n6_
                          have BK330 := n7_
                          have BK331 := n8_
                          have BK355 := n9_
                          have BK364 := n10_
                          have BK369 := n11_
                          have BK379 := n12_
                          have BK424 := n13_
                          have GW424 := n14_
                          have GE424 := n15_
                          have NB330_424 := n16_
                          have NB424_330 := n17_
                          have NB331_424 := n18_
                          have NB424_331 := n19_
                          have NB355_424 := n20_
                          have NB424_355 := n21_
                          have NB364_424 := n22_
                          have NB424_364 := n23_
                          have NB369_424 := n24_
                          have NB424_369 := n25_
                          have NB379_424 := n26_
                          have NB424_379 := n27_
                          have HB := n28_
                          clear n0_ n1_ n2_ n3_ n4_ n5_ n6_ n7_ n8_ n9_ n10_ n11_ n12_ n13_ n14_ n15_ n16_ n17_ n18_ n19_ n20_ n21_ n22_ n23_ n24_ n25_ n26_ n27_ n28_
                          have hHeld : w152.cell? ⟨gb330, 0, none⟩ = some (.slice A0_0 l0_0.length c0_0) ∧ w152.cell? ⟨gb330, 1, none⟩ = some (.int .i64 a0_1) ∧ w152.cell? ⟨gb330, 2, none⟩ = some (.int .i64 a0_2) ∧ w152.cell? ⟨gb330, 3, none⟩ = some (.int .i64 a0_3) ∧ w152.cell? ⟨gb330, 4, none⟩ = some (.int .i64 a0_4) ∧ w152.cell? ⟨gb330, 5, none⟩ = some (.int .i64 a0_5) ∧ w152.cell? ⟨gb331, 0, none⟩ = some (.int .i64 a1_0) ∧ w152.cell? ⟨gb331, 1, none⟩ = some (.slice A1_1 l1_1.length c1_1) := hS_
                          obtain ⟨Ao153, co153, eo153⟩ := Kd.R_slice HO417.out
                          (first | subst eo153 | (injection eo153 with f1_ f2_ f3_; have f4_ := f1_.symm; have f5_ := f3_.symm; clear f1_ f2_ f3_; subst f4_; subst f5_))
                          refine norm_ (a' := ?_) ?_ ?_
                          rotate_left
                          · simp only [putAll, Act.put, List.setIfInBounds_toArray, List.set_cons_zero, List.set_cons_succ]
                            rfl
                          refine one_ (i := 9) (N := none) #[true, true, true, true, true, true, true, true, true, true, false] rfl rfl (one_of HT_.out (by kernel_rfl)) (by decide) (fun K hK => ?_)
                          have hs154 : w152.cell? ⟨gb424, 0, none⟩ = some (.slice none 0 0) := (blk_cell BK424.out 0).trans rfl
                          have hfs154 := blk_frozen BK424.out 0
                          have hns154_0 := NB330_424.out
                          have hns154_1 := NB331_424.out
                          have hns154_2 := NB355_424.out
                          have hns154_3 := NB364_424.out
                          have hns154_4 := NB369_424.out
                          have hns154_5 := NB379_424.out
                          have hms154_0 := NB424_330.out
                          have hms154_1 := NB424_331.out
                          have hms154_2 := NB424_355.out
                          have hms154_3 := NB424_364.out
                          have hms154_4 := NB424_369.out
                          have hms154_5 := NB424_379.out
                          have hs155 : w152.cell? ⟨gb424, 1, none⟩ = some (.int .i64 0) := (blk_cell BK424.out 1).trans rfl
                          have hfs155 := blk_frozen BK424.out 1
                          have hns155_0 := NB330_424.out
                          have hns155_1 := NB331_424.out
                          have hns155_2 := NB355_424.out
                          have hns155_3 := NB364_424.out
                          have hns155_4 := NB369_424.out
                          have hns155_5 := NB379_424.out
                          have hms155_0 := NB424_330.out
                          have hms155_1 := NB424_331.out
                          have hms155_2 := NB424_355.out
                          have hms155_3 := NB424_364.out
                          have hms155_4 := NB424_369.out
                          have hms155_5 := NB424_379.out
                          have hs156 : w152.cell? ⟨gb424, 2, none⟩ = some (.int .i64 0) := (blk_cell BK424.out 2).trans rfl
                          have hfs156 := blk_frozen BK424.out 2
                          have hns156_0 := NB330_424.out
                          have hns156_1 := NB331_424.out
                          have hns156_2 := NB355_424.out
                          have hns156_3 := NB364_424.out
                          have hns156_4 := NB369_424.out
                          have hns156_5 := NB379_424.out
                          have hms156_0 := NB424_330.out
                          have hms156_1 := NB424_331.out
                          have hms156_2 := NB424_355.out
                          have hms156_3 := NB424_364.out
                          have hms156_4 := NB424_369.out
                          have hms156_5 := NB424_379.out
                          have hs157 : w152.cell? ⟨gb424, 3, none⟩ = some (.int .i64 0) := (blk_cell BK424.out 3).trans rfl
                          have hfs157 := blk_frozen BK424.out 3
                          have hns157_0 := NB330_424.out
                          have hns157_1 := NB331_424.out
                          have hns157_2 := NB355_424.out
                          have hns157_3 := NB364_424.out
                          have hns157_4 := NB369_424.out
                          have hns157_5 := NB379_424.out
                          have hms157_0 := NB424_330.out
                          have hms157_1 := NB424_331.out
                          have hms157_2 := NB424_355.out
                          have hms157_3 := NB424_364.out
                          have hms157_4 := NB424_369.out
                          have hms157_5 := NB424_379.out
                          have hs158 : w152.cell? ⟨gb424, 4, none⟩ = some (.int .i64 0) := (blk_cell BK424.out 4).trans rfl
                          have hfs158 := blk_frozen BK424.out 4
                          have hns158_0 := NB330_424.out
                          have hns158_1 := NB331_424.out
                          have hns158_2 := NB355_424.out
                          have hns158_3 := NB364_424.out
                          have hns158_4 := NB369_424.out
                          have hns158_5 := NB379_424.out
                          have hms158_0 := NB424_330.out
                          have hms158_1 := NB424_331.out
                          have hms158_2 := NB424_355.out
                          have hms158_3 := NB424_364.out
                          have hms158_4 := NB424_369.out
                          have hms158_5 := NB424_379.out
                          have hs159 : w152.cell? ⟨gb424, 5, none⟩ = some (.int .i64 0) := (blk_cell BK424.out 5).trans rfl
                          have hfs159 := blk_frozen BK424.out 5
                          have hns159_0 := NB330_424.out
                          have hns159_1 := NB331_424.out
                          have hns159_2 := NB355_424.out
                          have hns159_3 := NB364_424.out
                          have hns159_4 := NB369_424.out
                          have hns159_5 := NB379_424.out
                          have hms159_0 := NB424_330.out
                          have hms159_1 := NB424_331.out
                          have hms159_2 := NB424_355.out
                          have hms159_3 := NB424_364.out
                          have hms159_4 := NB424_369.out
                          have hms159_5 := NB424_379.out
                          refine skip_ (w1 := ?_) (by rfl) rfl ?_ ?_
                          rotate_left
                          · go_simp
                            rfl
                          refine hK.out _ _ ⟨((cell_far (p := ⟨gb424, _, none⟩) NB330_424.out _).trans (((cell_far (p := ⟨gb424, _, none⟩) NB330_424.out _).trans (((cell_far (p := ⟨gb424, _, none⟩) NB330_424.out _).trans (((cell_far (p := ⟨gb424, _, none⟩) NB330_424.out _).trans (((cell_far (p := ⟨gb424, _, none⟩) NB330_424.out _).trans (((cell_far (p := ⟨gb424, _, none⟩) NB330_424.out _).trans (hHeld.1)))))))))))), ((cell_far (p := ⟨gb424, _, none⟩) NB330_424.out _).trans (((cell_far (p := ⟨gb424, _, none⟩) NB330_424.out _).trans (((cell_far (p := ⟨gb424, _, none⟩) NB330_424.out _).trans (((cell_far (p := ⟨gb424, _, none⟩) NB330_424.out _).trans (((cell_far (p := ⟨gb424, _, none⟩) NB330_424.out _).trans (((cell_far (p := ⟨gb424, _, none⟩) NB330_424.out _).trans (hHeld.2.1)))))))))))), ((cell_far (p := ⟨gb424, _, none⟩) NB330_424.out _).trans (((cell_far (p := ⟨gb424, _, none⟩) NB330_424.out _).trans (((cell_far (p := ⟨gb424, _, none⟩) NB330_424.out _).trans (((cell_far (p := ⟨gb424, _, none⟩) NB330_424.out _).trans (((cell_far (p := ⟨gb424, _, none⟩) NB330_424.out _).trans (((cell_far (p := ⟨gb424, _, none⟩) NB330_424.out _).trans (hHeld.2.2.1)))))))))))), ((cell_far (p := ⟨gb424, _, none⟩) NB330_424.out _).trans (((cell_far (p := ⟨gb424, _, none⟩) NB330_424.out _).trans (((cell_far (p := ⟨gb424, _, none⟩) NB330_424.out _).trans (((cell_far (p := ⟨gb424, _, none⟩) NB330_424.out _).trans (((cell_far (p := ⟨gb424, _, none⟩) NB330_424.out _).trans (((cell_far (p := ⟨gb424, _, none⟩) NB330_424.out _).trans (hHeld.2.2.2.1)))))))))))), ((cell_far (p := ⟨gb424, _, none⟩) NB330_424.out _).trans (((cell_far (p := ⟨gb424, _, none⟩) NB330_424.out _).trans (((cell_far (p := ⟨gb424, _, none⟩) NB330_424.out _).trans (((cell_far (p := ⟨gb424, _, none⟩) NB330_424.out _).trans (((cell_far (p := ⟨gb424, _, none⟩) NB330_424.out _).trans (((cell_far (p := ⟨gb424, _, none⟩) NB330_424.out _).trans (hHeld.2.2.2.2.1)))))))))))), ((cell_far (p := ⟨gb424, _, none⟩) NB330_424.out _).trans (((cell_far (p := ⟨gb424, _, none⟩) NB330_424.out _).trans (((cell_far (p := ⟨gb424, _, none⟩) NB330_424.out _).trans (((cell_far (p := ⟨gb424, _, none⟩) NB330_424.out _).trans (((cell_far (p := ⟨gb424, _, none⟩) NB330_424.out _).trans (((cell_far (p := ⟨gb424, _, none⟩) NB330_424.out _).trans (hHeld.2.2.2.2.2.1)))))))))))), ((cell_far (p := ⟨gb424, _, none⟩) NB331_424.out _).trans (((cell_far (p := ⟨gb424, _, none⟩) NB331_424.out _).trans (((cell_far (p := ⟨gb424, _, none⟩) NB331_424.out _).trans (((cell_far (p := ⟨gb424, _, none⟩) NB331_424.out _).trans (((cell_far (p := ⟨gb424, _, none⟩) NB331_424.out _).trans (((cell_far (p := ⟨gb424, _, none⟩) NB331_424.out _).trans (hHeld.2.2.2.2.2.2.1)))))))))))), ((cell_far (p := ⟨gb424, _, none⟩) NB331_424.out _).trans (((cell_far (p := ⟨gb424, _, none⟩) NB331_424.out _).trans (((cell_far (p := ⟨gb424, _, none⟩) NB331_424.out _).trans (((cell_far (p := ⟨gb424, _, none⟩) NB331_424.out _).trans (((cell_far (p := ⟨gb424, _, none⟩) NB331_424.out _).trans (((cell_far (p := ⟨gb424, _, none⟩) NB331_424.out _).trans (hHeld.2.2.2.2.2.2.2))))))))))))⟩ (fun hHeld => ?_)
                          clear hK K
                          refine pure_ (i := 10) (N := some 16) (v := ?_) (a' := ?_) #[true, true, true, true, true, true, true, true, true, true, true] rfl rfl (any_of HT_.out (by kernel_rfl)) (fun _ _ _ h => h) (Or.inl ⟨by rfl, ?_⟩) ?_ ?_
                          rotate_left
                          · intro w'
                            go_simp
                            with_reducible rfl
                          rotate_left
                          · simp only [Act.put, List.setIfInBounds_toArray, List.set_cons_zero, List.set_cons_succ, i64_w, i32_w]
                            rfl
                          refine done_ (done_of HT_.out (by kernel_rfl)) ?_
                          go_upto_region 32 with (fail)
                          go_cut [110] (fun v110 wc => ∃ (kq : Nat) (x110_143 : Bool), v110 = .bool x110_143 ∧ Aside0 (laws_FnExactNextProbe.j2 kq t400 x110_143 t401 t373 t374 t375 t376 t377 = some r) ∧ Aside0 (kq ≤ kj97) ∧ Aside0 (Kd.R (Kd.int .i64) 3 wc w.heap.size (fun k_ => some k_ ≠ ((.slice Ao42 t396.length co42) : Value).ownBlock ∧ some k_ ≠ ((.slice Ao60 t370.length co60) : Value).ownBlock ∧ some k_ ≠ ((.slice Ao153 t415.length co153) : Value).ownBlock) (.slice Ao30 t346.length co30) t346) ∧ Aside0 (Kd.R (Kd.int .i64) 3 wc w.heap.size (fun k_ => some k_ ≠ ((.slice Ao30 t346.length co30) : Value).ownBlock ∧ some k_ ≠ ((.slice Ao60 t370.length co60) : Value).ownBlock ∧ some k_ ≠ ((.slice Ao153 t415.length co153) : Value).ownBlock) (.slice Ao42 t396.length co42) t396) ∧ Aside0 (Kd.R k82 82 wc w.heap.size (fun _ => True) (.slice Ao56 t398.length co56) t398) ∧ Aside0 (Kd.R (Kd.int .i64) 3 wc w.heap.size (fun k_ => some k_ ≠ ((.slice Ao30 t346.length co30) : Value).ownBlock ∧ some k_ ≠ ((.slice Ao42 t396.length co42) : Value).ownBlock ∧ some k_ ≠ ((.slice Ao153 t415.length co153) : Value).ownBlock) (.slice Ao60 t370.length co60) t401) ∧ Aside0 (Kd.R (Kd.int .i64) 3 wc w.heap.size (fun k_ => some k_ ≠ ((.slice Ao30 t346.length co30) : Value).ownBlock ∧ some k_ ≠ ((.slice Ao42 t396.length co42) : Value).ownBlock ∧ some k_ ≠ ((.slice Ao60 t370.length co60) : Value).ownBlock) (.slice Ao153 t415.length co153) t415) ∧ Aside0 (wc.heap[gb330]? = some (.cells #[(.slice A0_0 l0_0.length c0_0), .int .i64 a0_1, .int .i64 a0_2, .int .i64 a0_3, .int .i64 a0_4, .int .i64 a0_5] 88 (0, 0))) ∧ Aside0 (wc.heap[gb331]? = some (.cells #[.int .i64 a1_0, (.slice A1_1 l1_1.length c1_1)] 37 (0, 0))) ∧ Aside0 (wc.heap[gb355]? = some (.cells #[(.slice Ao30 t346.length co30), .int .i64 t349, .int .i64 t350, .int .i64 t351, .int .i64 t352, .int .i64 t353] 90 (0, 0))) ∧ Aside0 (wc.heap[gb364]? = some (.cells #[(.slice Ao42 t396.length co42), .int .i64 t359, .int .i64 t360, .int .i64 t361, .int .i64 t362, .int .i64 t363] 90 (0, 0))) ∧ Aside0 (wc.heap[gb369]? = some (.cells #[.int .i64 t365, (.slice Ao56 t398.length co56)] 41 (0, 0))) ∧ Aside0 (wc.heap[gb379]? = some (.cells #[(.slice Ao60 t370.length co60), .int .i64 t373, .int .i64 t374, .int .i64 t375, .int .i64 t376, .int .i64 t377] 90 (0, 0))) ∧ Aside0 (wc.heap[gb424]? = some (.cells #[(.slice Ao153 t415.length co153), .int .i64 t418, .int .i64 t419, .int .i64 t420, .int .i64 t421, .int .i64 t422] 90 (0, 0))) ∧ Aside0 (Below w.heap.size w wc))
                          case first =>
                            have H := HC144.out
                            clear HC144
                            replace H := Option.bind_eq_some_iff.mp H
                            obtain ⟨t425, A1600, H⟩ := H
                            have A160 := Aside0.mk A1600
                            clear A1600
                            have hnb161 := NB424_330.out
                            have hnc161 := NB330_424.out
                            have hnb162 := NB424_331.out
                            have hnc162 := NB331_424.out
                            have hnb163 := NB424_355.out
                            have hnc163 := NB355_424.out
                            have hnb164 := NB424_364.out
                            have hnc164 := NB364_424.out
                            have hnb165 := NB424_369.out
                            have hnc165 := NB369_424.out
                            have hnb166 := NB424_379.out
                            have hnc166 := NB379_424.out
                            obtain ⟨hcz167_0, hcz167_1, hcz167_2, hcz167_3, hcz167_4, hcz167_5⟩ := blkz6 BK424.out
                            have hfz167_0 := blkf BK424.out
                            have hnb168 := NB355_330.out
                            have hnc168 := NB330_355.out
                            have hnb169 := NB355_331.out
                            have hnc169 := NB331_355.out
                            have hnb170 := NB355_364.out
                            have hnc170 := NB364_355.out
                            have hnb171 := NB355_369.out
                            have hnc171 := NB369_355.out
                            have hnb172 := NB355_379.out
                            have hnc172 := NB379_355.out
                            obtain ⟨hcz173_0, hcz173_1, hcz173_2, hcz173_3, hcz173_4, hcz173_5⟩ := blkz6 BK355.out
                            have hfz173_0 := blkf BK355.out
                            replace H := Aside0.mk H
                            go_wp2_with (first | ((with_reducible refine gate_callee (f := 60) rfl ?_); refine goesL_ (some 104) rfl rfl Try.func60 (by kernel_rfl) rfl #[.agg #[.slice Ao153 t415.length co153, .int .i64 t418, .int .i64 t419, .int .i64 t420, .int .i64 t421, .int .i64 t422], .agg #[.slice Ao30 t346.length co30, .int .i64 t349, .int .i64 t350, .int .i64 t351, .int .i64 t352, .int .i64 t353]] rfl (by (try simp only [List.map_toArray, List.map_cons, List.map_nil]); first | done | rfl | (simp only [List.length_drop, List.length_take]; rfl)) ?_; (with_reducible refine (laws_eqProber.calls kj97 _ _ t415 t418 t419 t420 t421 t422 _ _ t346 t349 t350 t351 t352 t353 t425 _ ?side1 ?side2 ?side3 ?side4 A160.out).mono ?_); (case side1 => refine (Kd.R_reads' (e := 3) (base := w.heap.size) (ok := fun k_ => (some k_ ≠ (v404 : Value).ownBlock ∧ (some k_ ≠ (.slice Ao30 t346.length co30 : Value).ownBlock ∧ (some k_ ≠ (.slice Ao42 t396.length co42 : Value).ownBlock ∧ some k_ ≠ (.slice Ao60 t370.length co60 : Value).ownBlock)))) (n := t415.length) (c := co153) ?_).2.2; exact (by exact (Kd.R_farN HO417.out BK424.out))); (case side2 => exact (Kd.R_reads' HO417.out).2.1); (case side3 => refine (Kd.R_reads' (e := 3) (base := w.heap.size) (ok := fun k_ => (some k_ ≠ (v404 : Value).ownBlock ∧ (some k_ ≠ (.slice Ao153 t415.length co153 : Value).ownBlock ∧ (some k_ ≠ (.slice Ao42 t396.length co42 : Value).ownBlock ∧ some k_ ≠ (.slice Ao60 t370.length co60 : Value).ownBlock)))) (n := t346.length) (c := co30) ?_).2.2; exact (by exact (Kd.R_farN HO_356000.out BK424.out))); (case side4 => exact (Kd.R_reads' HO_356000.out).2.1); rintro e w174 ⟨rfl, hb⟩; refine ⟨_, rfl, ?_⟩; have n_ := an (Kd.R_below (by exact (Kd.R_farN HO_356000.out BK424.out)) hb) (an (Kd.R_below (by exact (Kd.R_farN HO_365000.out BK424.out)) hb) (an (Kd.R_below (by exact (Kd.R_farN HO_370001.out BK424.out)) hb) (an (Kd.R_below (by exact (Kd.R_farN HO_380000.out BK424.out)) hb) (an (Kd.R_below (by exact (Kd.R_farN HO405.out BK424.out)) hb) (an (Kd.R_below (by exact (Kd.R_farN HO414.out BK424.out)) hb) (an (Kd.R_below (by exact (Kd.R_farN HO417.out BK424.out)) hb) (an (blk_below (blk_kb BK330.out NB330_424.out) hb) (an (blk_below (blk_kb BK331.out NB331_424.out) hb) (an (blk_below (blk_kb BK355.out NB355_424.out) hb) (an (blk_below (blk_kb BK364.out NB364_424.out) hb) (an (blk_below (blk_kb BK369.out NB369_424.out) hb) (an (blk_below (blk_kb BK379.out NB379_424.out) hb) (an (blk_below (g := gb424) (o := .cells #[.slice Ao153 t415.length co153, .int .i64 t418, .int .i64 t419, .int .i64 t420, .int .i64 t421, .int .i64 t422] 90 (0, 0)) (by (with_reducible repeat (first | refine blk_drewN ?_ _ | refine blk_drew ?_ | refine blk_alloc ?_ _)); exact blk_fill6 BK424.out) hb) (an (below_step (by exact bel0) hb) (trivial))))))))))))))); clear HO_356000 HO_365000 HO_370001 HO_380000 HO405 HO414 HO417 BK330 BK331 BK355 BK364 BK369 BK379 BK424 HB; obtain ⟨HO_356000, HO_365000, HO_370001, HO_380000, HO405, HO414, HO417, BK330, BK331, BK355, BK364, BK369, BK379, BK424, HB, -⟩ := n_; (try clear hb); (try clear hb2); (try clear hk); (try clear hi); refine Stop.out ?_))
                            refine Stop.mk ?_
                            replace H := H.out
                            by_cases c175 : t425 = true
                            · subst c175
                              rw [if_pos rfl] at H
                              have H' := Aside0.mk H
                              clear H
                              go_wp2
                              go_meet
                              case rel => exact ⟨_, ((t423 != t354)), (by first | rfl | (simp; done) | (simp [*]; done)), H', ⟨by have := HJ20.out; have := HJ97.out; first | omega | exact Nat.le_refl _⟩, ⟨by (try simp only [hl365000_97]); (try simp only [hl370001_97]); exact Kd.R_nw (Kd.R_mono HO_356000.out (fun _ hk => ⟨hk.2.2.1, ⟨hk.2.2.2, hk.2.1⟩⟩))⟩, ⟨by (try simp only [hl365000_97]); (try simp only [hl370001_97]); exact Kd.R_nw (Kd.R_mono HO_365000.out (fun _ hk => ⟨hk.2.2.1, ⟨hk.2.2.2, hk.2.1⟩⟩))⟩, ⟨by (try simp only [hl365000_97]); (try simp only [hl370001_97]); exact Kd.R_nw (Kd.R_mono HO_370001.out (fun _ hk => trivial))⟩, ⟨by (try simp only [hl365000_97]); (try simp only [hl370001_97]); exact Kd.R_nw (Kd.R_mono HO_380000.out (fun _ hk => ⟨hk.2.2.1, ⟨hk.2.2.2, hk.2.1⟩⟩))⟩, ⟨by (try simp only [hl365000_97]); (try simp only [hl370001_97]); exact Kd.R_nw (Kd.R_mono HO417.out (fun _ hk => ⟨hk.2.1, ⟨hk.2.2.1, hk.2.2.2⟩⟩))⟩, ⟨by (try simp only [hl365000_97]); (try simp only [hl370001_97]); exact blk_nw BK330.out⟩, ⟨by (try simp only [hl365000_97]); (try simp only [hl370001_97]); exact blk_nw BK331.out⟩, ⟨by (try simp only [hl365000_97]); (try simp only [hl370001_97]); exact blk_nw BK355.out⟩, ⟨by (try simp only [hl365000_97]); (try simp only [hl370001_97]); exact blk_nw BK364.out⟩, ⟨by (try simp only [hl365000_97]); (try simp only [hl370001_97]); exact blk_nw BK369.out⟩, ⟨by (try simp only [hl365000_97]); (try simp only [hl370001_97]); exact blk_nw BK379.out⟩, ⟨by (try simp only [hl365000_97]); (try simp only [hl370001_97]); exact blk_nw BK424.out⟩, ⟨by exact bel0⟩⟩
                            · replace c175 := Bool.eq_false_iff.mpr c175
                              subst c175
                              rw [if_neg (show ¬ (false = true) by decide)] at H
                              have H' := Aside0.mk H
                              clear H
                              go_wp2
                              go_meet
                              case rel => exact ⟨_, (true), (by first | rfl | (simp; done) | (simp [*]; done)), H', ⟨by have := HJ20.out; have := HJ97.out; first | omega | exact Nat.le_refl _⟩, ⟨by (try simp only [hl365000_97]); (try simp only [hl370001_97]); exact Kd.R_nw (Kd.R_mono HO_356000.out (fun _ hk => ⟨hk.2.2.1, ⟨hk.2.2.2, hk.2.1⟩⟩))⟩, ⟨by (try simp only [hl365000_97]); (try simp only [hl370001_97]); exact Kd.R_nw (Kd.R_mono HO_365000.out (fun _ hk => ⟨hk.2.2.1, ⟨hk.2.2.2, hk.2.1⟩⟩))⟩, ⟨by (try simp only [hl365000_97]); (try simp only [hl370001_97]); exact Kd.R_nw (Kd.R_mono HO_370001.out (fun _ hk => trivial))⟩, ⟨by (try simp only [hl365000_97]); (try simp only [hl370001_97]); exact Kd.R_nw (Kd.R_mono HO_380000.out (fun _ hk => ⟨hk.2.2.1, ⟨hk.2.2.2, hk.2.1⟩⟩))⟩, ⟨by (try simp only [hl365000_97]); (try simp only [hl370001_97]); exact Kd.R_nw (Kd.R_mono HO417.out (fun _ hk => ⟨hk.2.1, ⟨hk.2.2.1, hk.2.2.2⟩⟩))⟩, ⟨by (try simp only [hl365000_97]); (try simp only [hl370001_97]); exact blk_nw BK330.out⟩, ⟨by (try simp only [hl365000_97]); (try simp only [hl370001_97]); exact blk_nw BK331.out⟩, ⟨by (try simp only [hl365000_97]); (try simp only [hl370001_97]); exact blk_nw BK355.out⟩, ⟨by (try simp only [hl365000_97]); (try simp only [hl370001_97]); exact blk_nw BK364.out⟩, ⟨by (try simp only [hl365000_97]); (try simp only [hl370001_97]); exact blk_nw BK369.out⟩, ⟨by (try simp only [hl365000_97]); (try simp only [hl370001_97]); exact blk_nw BK379.out⟩, ⟨by (try simp only [hl365000_97]); (try simp only [hl370001_97]); exact blk_nw BK424.out⟩, ⟨by exact bel0⟩⟩
                          case rest =>
                            clear HC144
                            try clear c1
                            try clear c2
                            try clear p2
                            try clear c5
                            try clear c6
                            try clear c16
                            try clear c17
                            try clear c25
                            try clear c58
                            try clear c60
                            try clear c64
                            try clear c161
                            try clear c162
                            try clear c163
                            try clear c164
                            try clear c165
                            try clear c166
                            try clear c168
                            try clear c169
                            try clear c170
                            try clear c171
                            try clear c172
                            try clear c175
                            try clear hcz167_0
                            try clear hcz167_1
                            try clear hcz167_2
                            try clear hcz167_3
                            try clear hcz167_4
                            try clear hcz167_5
                            try clear hcz173_0
                            try clear hcz173_1
                            try clear hcz173_2
                            try clear hcz173_3
                            try clear hcz173_4
                            try clear hcz173_5
                            try clear hfz167_0
                            try clear hfz167_1
                            try clear hfz167_2
                            try clear hfz167_3
                            try clear hfz167_4
                            try clear hfz167_5
                            try clear hfz173_0
                            try clear hfz173_1
                            try clear hfz173_2
                            try clear hfz173_3
                            try clear hfz173_4
                            try clear hfz173_5
                            obtain ⟨kq, x110_143, rfl, HA, HJ143, HO_356000, HO_365000, HO_370001, HO_380000, HO_425000, BK330, BK331, BK355, BK364, BK369, BK379, BK424, HB⟩ := hcut
                            have hl380000_143 := (Kd.R_reads' HO_380000.out).1
                            rw [hl380000_143] at HO_380000
                            (try simp only [hl380000_143])
                            (try simp only [hl380000_143] at BK330)
                            (try simp only [hl380000_143] at BK331)
                            (try simp only [hl380000_143] at BK355)
                            (try simp only [hl380000_143] at BK364)
                            (try simp only [hl380000_143] at BK369)
                            (try simp only [hl380000_143] at BK379)
                            (try simp only [hl380000_143] at BK424)
                            (try simp only [hl380000_143] at HO_356000)
                            (try simp only [hl380000_143] at HO_365000)
                            (try simp only [hl380000_143] at HO_370001)
                            (try simp only [hl380000_143] at HO_425000)
                            cases kq with
                            | zero => exact absurd HA.out (by simp [laws_FnExactNextProbe.j2])
                            | succ kj143 =>
                              have H := HA.out
                              clear HA
                              simp only [laws_FnExactNextProbe.j2] at H
                              by_cases c176 : x110_143 = true
                              · subst c176
                                rw [if_pos rfl] at H
                                obtain rfl := Option.some.inj H
                                go_wp2
                                go_ret
                                exact ⟨by first | rfl | (simp [errW_none, errW_some] <;> rfl) | (simp [*, errW_none, errW_some] <;> rfl), by exact bel0⟩
                              · replace c176 := Bool.eq_false_iff.mpr c176
                                subst c176
                                rw [if_neg (show ¬ (false = true) by decide)] at H
                                replace H := Option.bind_eq_some_iff.mp H
                                obtain ⟨t426, A1770, H⟩ := H
                                have A177 := Aside0.mk A1770
                                clear A1770
                                have hnb178 := NB379_330.out
                                have hnc178 := NB330_379.out
                                have hnb179 := NB379_331.out
                                have hnc179 := NB331_379.out
                                have hnb180 := NB379_355.out
                                have hnc180 := NB355_379.out
                                have hnb181 := NB379_364.out
                                have hnc181 := NB364_379.out
                                have hnb182 := NB379_369.out
                                have hnc182 := NB369_379.out
                                have hnb183 := NB379_424.out
                                have hnc183 := NB424_379.out
                                obtain ⟨hcz184_0, hcz184_1, hcz184_2, hcz184_3, hcz184_4, hcz184_5⟩ := blkz6 BK379.out
                                have hfz184_0 := blkf BK379.out
                                replace H := Aside0.mk H
                                go_wp2_with (first | ((with_reducible refine gate_callee (f := 62) rfl ?_); refine goesL_ (some 113) rfl rfl Try.func62 (by kernel_rfl) rfl #[.agg #[.slice Ao60 t401.length co60, .int .i64 t373, .int .i64 t374, .int .i64 t375, .int .i64 t376, .int .i64 t377], .int .i64 1] rfl (by (try simp only [List.map_toArray, List.map_cons, List.map_nil]); first | done | rfl | (simp only [List.length_drop, List.length_take]; rfl)) ?_; (with_reducible refine (laws_heldProber.calls kj143 _ _ t401 t373 t374 t375 t376 t377 1 t426 _ ?side1 ?side2 A177.out).mono ?_); (case side1 => repeat (first | exact (Kd.R_reads' HO_380000.out).2.2 | (with_reducible refine Kd.C_alloc ?_ _) | (with_reducible refine Kd.C_drewN ?_ _) | (with_reducible refine Kd.C_drew ?_))); (case side2 => exact (Kd.R_reads' HO_380000.out).2.1); rintro e w185 ⟨rfl, hb⟩; refine ⟨_, rfl, ?_⟩; have n_ := an (Kd.R_below (by exact Kd.R_nw HO_356000.out) hb) (an (Kd.R_below (by exact Kd.R_nw HO_365000.out) hb) (an (Kd.R_below (by exact Kd.R_nw HO_370001.out) hb) (an (Kd.R_below (by exact Kd.R_nw HO_380000.out) hb) (an (Kd.R_below (by exact Kd.R_nw HO_425000.out) hb) (an (blk_below (blk_nw BK330.out) hb) (an (blk_below (blk_nw BK331.out) hb) (an (blk_below (blk_nw BK355.out) hb) (an (blk_below (blk_nw BK364.out) hb) (an (blk_below (blk_nw BK369.out) hb) (an (blk_below (blk_nw BK379.out) hb) (an (blk_below (blk_nw BK424.out) hb) (an (below_step (by exact bel0) hb) (trivial))))))))))))); clear HO_356000 HO_365000 HO_370001 HO_380000 HO_425000 BK330 BK331 BK355 BK364 BK369 BK379 BK424 HB; obtain ⟨HO_356000, HO_365000, HO_370001, HO_380000, HO_425000, BK330, BK331, BK355, BK364, BK369, BK379, BK424, HB, -⟩ := n_; (try clear hb); (try clear hb2); (try clear hk); (try clear hi); refine Stop.out ?_))
                                refine Stop.mk ?_
                                replace H := H.out
                                by_cases c186 : t426 < 0
                                · rw [if_pos c186] at H
                                  have c186b0 : decide (t426 < 0) = true := decide_eq_true c186
                                  clear c186
                                  (try simp only [c186b0])
                                  obtain rfl := Option.some.inj H
                                  go_wp2
                                  go_ret
                                  exact ⟨by first | rfl | (simp [errW_none, errW_some] <;> rfl) | (simp [*, errW_none, errW_some] <;> rfl), by exact bel0⟩
                                · rw [if_neg c186] at H
                                  have c186b0 : decide (t426 < 0) = false := decide_eq_false c186
                                  clear c186
                                  (try simp only [c186b0])
                                  by_cases c187 : t426 = t400
                                  · rw [if_pos c187] at H
                                    have c187b0 : (t426 == t400) = true := beq_iff_eq.mpr c187
                                    have c187b1 : (t426 != t400) = false := bne_eq_false_iff_eq.mpr c187
                                    clear c187
                                    obtain rfl := Option.some.inj H
                                    go_wp2
                                    go_ret
                                    exact ⟨by first | rfl | (simp [errW_none, errW_some] <;> rfl) | (simp [*, errW_none, errW_some] <;> rfl), by exact bel0⟩
                                  · rw [if_neg c187] at H
                                    have c187b0 : (t426 == t400) = false := beq_eq_false_iff_ne.mpr c187
                                    have c187b1 : (t426 != t400) = true := bne_iff_ne.mpr c187
                                    obtain rfl := Option.some.inj H
                                    go_wp2
                                    go_ret
                                    exact ⟨by first | rfl | (simp [errW_none, errW_some] <;> rfl) | (simp [*, errW_none, errW_some] <;> rfl), by exact bel0⟩
                        · rw [if_neg c140] at H
                          have c140b0 : (t402 == t400) = false := beq_eq_false_iff_ne.mpr c140
                          have c140b1 : (t402 != t400) = true := bne_iff_ne.mpr c140
                          obtain rfl := Option.some.inj H
                          go_wp2
                          go_ret
                          exact ⟨by first | rfl | (simp [errW_none, errW_some] <;> rfl) | (simp [*, errW_none, errW_some] <;> rfl), by exact bel0⟩
              · replace c95 := Bool.eq_false_iff.mpr c95
                subst c95
                rw [if_neg (show ¬ (false = true) by decide)] at H
                obtain rfl := Option.some.inj H
                go_wp2
                go_ret
                exact ⟨by first | rfl | (simp [errW_none, errW_some] <;> rfl) | (simp [*, errW_none, errW_some] <;> rfl), by exact bel0⟩
            · replace c88 := Bool.eq_false_iff.mpr c88
              subst c88
              rw [if_neg (show ¬ (false = true) by decide)] at H
              obtain rfl := Option.some.inj H
              go_wp2
              go_ret
              exact ⟨by first | rfl | (simp [errW_none, errW_some] <;> rfl) | (simp [*, errW_none, errW_some] <;> rfl), by exact bel0⟩

end Go.Proofs.Ytigoajblljolcaa.XFnExactNextProbe
