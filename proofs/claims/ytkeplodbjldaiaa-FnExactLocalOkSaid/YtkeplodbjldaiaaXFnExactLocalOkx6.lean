-- Written by this session's own program (xprint.py) over the kit's print.
import Derived.Test.YtkeplodbjldaiaaXFnExactLocalOkx0
import Derived.Test.YtkeplodbjldaiaaXFnExactLocalOkx4
import Derived.Test.YtkeplodbjldaiaaXFnExactLocalOkx5
namespace Go.Proofs.Ytkeplodbjldaiaa.XFnExactLocalOk
open Go.RowKit Go.Proofs.YtkeplodbjldaiaaW.PrintWords Go.Proofs.YtkeplodbjldaiaaW.PrintLast Go.Proofs.YtkeplodbjldaiaaW.PrintMore
attribute [local go_sem] max2_int min2_int max_two min_two max_three min_three max_four min_four   -- for this text's walks alone
set_option linter.unusedVariables false
set_option linter.unusedSimpArgs false

abbrev b6z0_ : Array Bool := #[false, false, false, false, false, false, false, false, false, false, false, false, false, false, false, false, false, false, false, false, false, false, false, false, false, false, false, false, false, false, false, false, false, false, false]
abbrev b6z1_ : Array Bool := #[true, false, false, false, false, false, false, false, false, false, false, false, false, false, false, false, false, false, false, false, false, false, false, false, false, false, false, false, false, false, false, false, false, false, false]
abbrev b6z2_ : Array Bool := #[true, true, false, false, false, false, false, false, false, false, false, false, false, false, false, false, false, false, false, false, false, false, false, false, false, false, false, false, false, false, false, false, false, false, false]
abbrev b6z3_ : Array Bool := #[true, true, true, false, false, false, false, false, false, false, false, false, false, false, false, false, false, false, false, false, false, false, false, false, false, false, false, false, false, false, false, false, false, false, false]
abbrev b6z4_ : Array Bool := #[true, true, true, true, false, false, false, false, false, false, false, false, false, false, false, false, false, false, false, false, false, false, false, false, false, false, false, false, false, false, false, false, false, false, false]
abbrev b6z5_ : Array Bool := #[true, true, true, true, true, false, false, false, false, false, false, false, false, false, false, false, false, false, false, false, false, false, false, false, false, false, false, false, false, false, false, false, false, false, false]
abbrev b6z6_ : Array Bool := #[true, true, true, true, true, false, true, false, false, false, false, false, false, false, false, false, false, false, false, false, false, false, false, false, false, false, false, false, false, false, false, false, false, false, false]
abbrev b6z7_ : Array Bool := #[true, true, true, true, true, true, true, false, false, false, false, false, false, false, false, false, false, false, false, false, false, false, false, false, false, false, false, false, false, false, false, false, false, false, false]
abbrev b6z8_ : Array Bool := #[true, true, true, true, true, true, true, true, false, false, false, false, false, false, false, false, false, false, false, false, false, false, false, false, false, false, false, false, false, false, false, false, false, false, false]
abbrev b6z9_ : Array Bool := #[true, true, true, true, true, true, true, true, true, false, false, false, false, false, false, false, false, false, false, false, false, false, false, false, false, false, false, false, false, false, false, false, false, false, false]
abbrev b6z10_ : Array Bool := #[true, true, true, true, true, true, true, true, true, true, false, false, false, false, false, false, false, false, false, false, false, false, false, false, false, false, false, false, false, false, false, false, false, false, false]
abbrev b6z11_ : Array Bool := #[true, true, true, true, true, true, true, true, true, true, true, false, false, false, false, false, false, false, false, false, false, false, false, false, false, false, false, false, false, false, false, false, false, false, false]
abbrev b6z12_ : Array Bool := #[true, true, true, true, true, true, true, true, true, true, true, true, false, false, false, false, false, false, false, false, false, false, false, false, false, false, false, false, false, false, false, false, false, false, false]
abbrev b6z13_ : Array Bool := #[true, true, true, true, true, true, true, true, true, true, true, true, true, false, false, false, false, false, false, false, false, false, false, false, false, false, false, false, false, false, false, false, false, false, false]
abbrev b6z14_ : Array Bool := #[true, true, true, true, true, true, true, true, true, true, true, true, true, true, false, false, false, false, false, false, false, false, false, false, false, false, false, false, false, false, false, false, false, false, false]
abbrev b6z15_ : Array Bool := #[true, true, true, true, true, true, true, true, true, true, true, true, true, true, true, false, false, false, false, false, false, false, false, false, false, false, false, false, false, false, false, false, false, false, false]
abbrev b6z16_ : Array Bool := #[true, true, true, true, true, true, true, true, true, true, true, true, true, true, true, true, false, false, false, false, false, false, false, false, false, false, false, false, false, false, false, false, false, false, false]
abbrev b6z17_ : Array Bool := #[true, true, true, true, true, true, true, true, true, true, true, true, true, true, true, true, true, false, false, false, false, false, false, false, false, false, false, false, false, false, false, false, false, false, false]
abbrev b6z18_ : Array Bool := #[true, true, true, true, true, true, true, true, true, true, true, true, true, true, true, true, true, true, false, false, false, false, false, false, false, false, false, false, false, false, false, false, false, false, false]
abbrev b6z19_ : Array Bool := #[true, true, true, true, true, true, true, true, true, true, true, true, true, true, true, true, true, true, true, false, false, false, false, false, false, false, false, false, false, false, false, false, false, false, false]
abbrev b6z20_ : Array Bool := #[true, true, true, true, true, true, true, true, true, true, true, true, true, true, true, true, true, true, true, true, false, false, false, false, false, false, false, false, false, false, false, false, false, false, false]
abbrev b6z21_ : Array Bool := #[true, true, true, true, true, true, true, true, true, true, true, true, true, true, true, true, true, true, true, true, true, false, false, false, false, false, false, false, false, false, false, false, false, false, false]
abbrev b6z22_ : Array Bool := #[true, true, true, true, true, true, true, true, true, true, true, true, true, true, true, true, true, true, true, true, true, true, false, false, false, false, false, false, false, false, false, false, false, false, false]
abbrev b6z23_ : Array Bool := #[true, true, true, true, true, true, true, true, true, true, true, true, true, true, true, true, true, true, true, true, true, true, true, false, false, false, false, false, false, false, false, false, false, false, false]
abbrev b6z24_ : Array Bool := #[true, true, true, true, true, true, true, true, true, true, true, true, true, true, true, true, true, true, true, true, true, true, true, true, false, false, false, false, false, false, false, false, false, false, false]
abbrev b6z25_ : Array Bool := #[true, true, true, true, true, true, true, true, true, true, true, true, true, true, true, true, true, true, true, true, true, true, true, true, true, false, false, false, false, false, false, false, false, false, false]
abbrev b6z26_ : Array Bool := #[true, true, true, true, true, true, true, true, true, true, true, true, true, true, true, true, true, true, true, true, true, true, true, true, true, true, false, false, false, false, false, false, false, false, false]
abbrev b6z27_ : Array Bool := #[true, true, true, true, true, true, true, true, true, true, true, true, true, true, true, true, true, true, true, true, true, true, true, true, true, true, true, false, false, false, false, false, false, false, false]
abbrev b6z28_ : Array Bool := #[true, true, true, true, true, true, true, true, true, true, true, true, true, true, true, true, true, true, true, true, true, true, true, true, true, true, true, true, false, false, false, false, false, false, false]
abbrev b6z29_ : Array Bool := #[true, true, true, true, true, true, true, true, true, true, true, true, true, true, true, true, true, true, true, true, true, true, true, true, true, true, true, true, true, false, false, false, false, false, false]
abbrev b6z30_ : Array Bool := #[true, true, true, true, true, true, true, true, true, true, true, true, true, true, true, true, true, true, true, true, true, true, true, true, true, true, true, true, true, true, false, false, false, false, false]
abbrev b6z31_ : Array Bool := #[true, true, true, true, true, true, true, true, true, true, true, true, true, true, true, true, true, true, true, true, true, true, true, true, true, true, true, true, true, true, true, false, false, false, false]
abbrev b6z32_ : Array Bool := #[true, true, true, true, true, true, true, true, true, true, true, true, true, true, true, true, true, true, true, true, true, true, true, true, true, true, true, true, true, true, true, true, false, false, false]
abbrev b6z33_ : Array Bool := #[true, true, true, true, true, true, true, true, true, true, true, true, true, true, true, true, true, true, true, true, true, true, true, true, true, true, true, true, true, true, true, true, true, false, false]
abbrev b6z34_ : Array Bool := #[true, true, true, true, true, true, true, true, true, true, true, true, true, true, true, true, true, true, true, true, true, true, true, true, true, true, true, true, true, true, true, true, true, true, false]
abbrev b6z35_ : Array Bool := #[true, true, true, true, true, true, true, true, true, true, true, true, true, true, true, true, true, true, true, true, true, true, true, true, true, true, true, true, true, true, true, true, true, true, true]
abbrev b6z36_ : Array Bool := #[true, true, true, true, true, true, true, true, true, true, true, true, true, true, true, true, true, true, true, true, true, true, true, false, true, false, false, false, false, false, false, false, false, false, false]
abbrev b6z37_ : Array Bool := #[true, true, true, true, true, true, true, true, true, true, true, true, true, true, true, true, true, true, true, true, true, true, true, false, true, true, false, false, false, false, false, false, false, false, false]
abbrev b6z38_ : Array Bool := #[true, true, true, true, true, true, true, true, true, true, true, true, true, true, true, true, true, true, true, true, true, true, true, false, true, true, false, false, false, true, false, false, false, false, false]
abbrev b6z39_ : Array Bool := #[true, true, true, true, true, true, true, true, true, true, true, true, true, true, true, true, true, true, true, true, true, true, true, true, true, true, false, false, false, true, false, false, false, false, false]
abbrev b6z40_ : Array Bool := #[true, true, true, true, true, true, true, true, true, true, true, true, true, true, true, true, true, true, true, true, true, true, true, true, true, true, true, false, false, true, false, false, false, false, false]
abbrev b6z41_ : Array Bool := #[true, true, true, true, true, true, true, true, true, true, true, true, true, true, true, true, true, true, true, true, true, true, true, true, true, true, true, true, false, true, false, false, false, false, false]
abbrev b6z42_ : Array Bool := #[true, true, true, true, true, true, false, false, false, false, false, false, false, false, false, false, false, false, false, false, false, false, false, false, false, false, false, false, false, false, false, false, false, false, false]
abbrev b6z43_ : Array Bool := #[false, false, false, false, false, false, false, false, false, false, false, false, false, false, false, false, false, false, false, false]
abbrev b6z44_ : Array Bool := #[true, false, false, false, false, false, false, false, false, false, false, false, false, false, false, false, false, false, false, false]
abbrev b6z45_ : Array Bool := #[true, true, false, false, false, false, false, false, false, false, false, false, false, false, false, false, false, false, false, false]
abbrev b6z46_ : Array Bool := #[true, true, true, false, false, false, false, false, false, false, false, false, false, false, false, false, false, false, false, false]
abbrev b6z47_ : Array Bool := #[true, true, true, true, false, false, false, false, false, false, false, false, false, false, false, false, false, false, false, false]
abbrev b6z48_ : Array Bool := #[true, true, true, true, true, false, false, false, false, false, false, false, false, false, false, false, false, false, false, false]
abbrev b6z49_ : Array Bool := #[true, true, true, true, true, true, false, false, false, false, false, false, false, false, false, false, false, false, false, false]
abbrev b6z50_ : Array Bool := #[true, true, true, true, true, true, true, false, false, false, false, false, false, false, false, false, false, false, false, false]
abbrev b6z51_ : Array Bool := #[true, true, true, true, true, true, true, true, false, false, false, false, false, false, false, false, false, false, false, false]
abbrev b6z52_ : Array Bool := #[true, true, true, true, true, true, true, true, false, true, false, false, false, false, false, false, false, false, false, false]
abbrev b6z53_ : Array Bool := #[true, true, true, true, true, true, true, true, false, true, true, false, false, false, false, false, false, false, false, false]
abbrev b6z54_ : Array Bool := #[true, true, true, true, true, true, true, true, false, true, true, false, false, false, true, false, false, false, false, false]
abbrev b6z55_ : Array Bool := #[true, true, true, true, true, true, true, true, true, true, true, false, false, false, true, false, false, false, false, false]
abbrev b6z56_ : Array Bool := #[true, true, true, true, true, true, true, true, true, true, true, true, false, false, true, false, false, false, false, false]
abbrev b6z57_ : Array Bool := #[true, true, true, true, true, true, true, true, true, true, true, true, true, false, true, false, false, false, false, false]
abbrev b6z58_ : Array Bool := #[true, true, true, true, true, true, true, true, true, true, true, true, true, true, true, false, false, false, false, false]
abbrev b6z59_ : Array Bool := #[true, true, true, true, true, true, true, true, true, true, true, true, true, true, true, true, false, false, false, false]
abbrev b6z60_ : Array Bool := #[true, true, true, true, true, true, true, true, true, true, true, true, true, true, true, true, true, false, false, false]
abbrev b6z61_ : Array Bool := #[true, true, true, true, true, true, true, true, true, true, true, true, true, true, true, true, true, true, false, false]
abbrev b6z62_ : Array Bool := #[true, true, true, true, true, true, true, true, true, true, true, true, true, true, true, true, true, true, true, false]
abbrev b6z63_ : Array Bool := #[true, true, true, true, true, true, true, true, true, true, true, true, true, true, true, true, true, true, true, true]
abbrev b6z64_ : Array Bool := #[true, true, true, true, true, true, true, true, true, false, false, false, false, false, false, false, false, false, false, false]
abbrev b6z65_ : Array Bool := #[true, true, true, true, true, true, true, true, true, true, false, false, false, false, false, false, false, false, false, false]
abbrev b6z66_ : Array Bool := #[true, true, true, true, true, true, true, true, true, true, true, false, false, false, false, false, false, false, false, false]
abbrev b6z67_ : Array Bool := #[true, true, true, true, true, true, true, true, true, true, true, true, false, false, false, false, false, false, false, false]
abbrev b6z68_ : Array Bool := #[true, true, true, true, true, true, true, true, true, true, true, true, true, false, false, false, false, false, false, false]
abbrev b6z69_ : Array Bool := #[true, true, true, true, true, true, true, true, true, true, true, true, true, true, false, false, false, false, false, false]
/-! ### impl_LocalOk: function 8 -/
mutual
def impl_LocalOk.j0 : Nat → Bool → List Int → List (S43) → Option (Bool)
  | 0, _, _, _ => none
  | k + 1, x16, x248000, x248001 => if x16 = true then (some false) else (impl_LocalOk.l0 k x248001 (x248001.length : Int) 0 x248000 x248001)
def impl_LocalOk.l0 : Nat → List (S43) → Int → Int → List Int → List (S43) → Option (Bool)
  | 0, _, _, _, _, _ => none
  | k + 1, x18, x19, x20, x248000, x248001 => if x20 < x19 then (if 0 ≤ x20 then (if x20 < (x18.length : Int) then ((impl_isPlain.f k ((rd_T43 x18 x20).f0)).bind fun t251 => (if t251 = true then ((impl_Local_catalogKey.f x248000 x248001 ((rd_T43 x18 x20).f0)).bind fun t252 => ((impl_KeyOk.f k t252).bind fun t255 => (if t255 = true then (if (((rd_T43 x18 x20).f1).length : Int) > 4 then (impl_LocalOk.j2 k x18 x19 x20 true x248000 x248001 ((rd_T43 x18 x20).f0) ((rd_T43 x18 x20).f1)) else (if x20 > 0 then (if 0 ≤ (wrap64 (x20 - 1)) then (if (wrap64 (x20 - 1)) < (x248001.length : Int) then ((bytes_Compare.f ((rd_T43 x248001 (wrap64 (x20 - 1))).f0) ((rd_T43 x18 x20).f0)).bind fun t257 => (impl_LocalOk.j2 k x18 x19 x20 (decide (t257 ≥ 0)) x248000 x248001 ((rd_T43 x18 x20).f0) ((rd_T43 x18 x20).f1))) else (none)) else (none)) else (impl_LocalOk.j2 k x18 x19 x20 false x248000 x248001 ((rd_T43 x18 x20).f0) ((rd_T43 x18 x20).f1)))) else (impl_LocalOk.j2 k x18 x19 x20 true x248000 x248001 ((rd_T43 x18 x20).f0) ((rd_T43 x18 x20).f1))))) else (impl_LocalOk.j2 k x18 x19 x20 true x248000 x248001 ((rd_T43 x18 x20).f0) ((rd_T43 x18 x20).f1)))) else (none)) else (none)) else (some true)
def impl_LocalOk.j2 : Nat → List (S43) → Int → Int → Bool → List Int → List (S43) → List Int → List (S47) → Option (Bool)
  | 0, _, _, _, _, _, _, _, _ => none
  | k + 1, x18, x19, x20, x59, x248000, x248001, x251000, x251001 => if x59 = true then (some false) else (impl_LocalOk.l1 k x18 x19 x20 x251001 (x251001.length : Int) 0 x248000 x248001 x251000 x251001)
def impl_LocalOk.l1 : Nat → List (S43) → Int → Int → List (S47) → Int → Int → List Int → List (S43) → List Int → List (S47) → Option (Bool)
  | 0, _, _, _, _, _, _, _, _, _, _ => none
  | k + 1, x18, x19, x20, x61, x62, x63, x248000, x248001, x251000, x251001 => if x63 < x62 then (if 0 ≤ x63 then (if x63 < (x61.length : Int) then ((impl_CheckOk.f k ((rd_T47 x61 x63).f0) ((rd_T47 x61 x63).f1) ((rd_T47 x61 x63).f2) ((rd_T47 x61 x63).f3) ((rd_T47 x61 x63).f4) ((rd_T47 x61 x63).f5)).bind fun t260 => (if t260 = true then (if x63 > 0 then (if 0 ≤ (wrap64 (x63 - 1)) then (if (wrap64 (x63 - 1)) < (x251001.length : Int) then ((bytes_Compare.f ((rd_T47 x251001 (wrap64 (x63 - 1))).f0) ((rd_T47 x61 x63).f0)).bind fun t262 => (if t262 ≥ 0 then (some false) else (impl_LocalOk.l1 k x18 x19 x20 x61 x62 (wrap64 (x63 + 1)) x248000 x248001 x251000 x251001))) else (none)) else (none)) else (impl_LocalOk.l1 k x18 x19 x20 x61 x62 (wrap64 (x63 + 1)) x248000 x248001 x251000 x251001)) else (some false))) else (none)) else (none)) else (impl_LocalOk.l0 k x18 x19 (wrap64 (x20 + 1)) x248000 x248001)
end
def impl_LocalOk.f (k : Nat) (l0_0 : List Int) (l0_1 : List (S43)) : Option (Bool) := (impl_isPlain.f k l0_0).bind fun t248 => (if t248 = true then (impl_LocalOk.j0 k (decide ((l0_1.length : Int) > 6)) l0_0 l0_1) else (impl_LocalOk.j0 k true l0_0 l0_1))
theorem impl_LocalOk.mono_l : ∀ k, (∀ y0 y1 y2, LeO (impl_LocalOk.j0 k y0 y1 y2) (impl_LocalOk.j0 (k + 1) y0 y1 y2)) ∧ (∀ y0 y1 y2 y3 y4, LeO (impl_LocalOk.l0 k y0 y1 y2 y3 y4) (impl_LocalOk.l0 (k + 1) y0 y1 y2 y3 y4)) ∧ (∀ y0 y1 y2 y3 y4 y5 y6 y7, LeO (impl_LocalOk.j2 k y0 y1 y2 y3 y4 y5 y6 y7) (impl_LocalOk.j2 (k + 1) y0 y1 y2 y3 y4 y5 y6 y7)) ∧ (∀ y0 y1 y2 y3 y4 y5 y6 y7 y8 y9, LeO (impl_LocalOk.l1 k y0 y1 y2 y3 y4 y5 y6 y7 y8 y9) (impl_LocalOk.l1 (k + 1) y0 y1 y2 y3 y4 y5 y6 y7 y8 y9))
 | 0 => ⟨fun _ _ _ r h => by simp [impl_LocalOk.j0] at h, fun _ _ _ _ _ r h => by simp [impl_LocalOk.l0] at h, fun _ _ _ _ _ _ _ _ r h => by simp [impl_LocalOk.j2] at h, fun _ _ _ _ _ _ _ _ _ _ r h => by simp [impl_LocalOk.l1] at h⟩
 | k + 1 => by
  obtain ⟨ih0, ih1, ih2, ih3⟩ := impl_LocalOk.mono_l k
  refine ⟨?_, ?_, ?_, ?_⟩
  ·intro y0 y1 y2
   unfold impl_LocalOk.j0
   repeat' first
   | (with_reducible exact ih0 _ _ _)
   | (with_reducible exact ih1 _ _ _ _ _)
   | (with_reducible exact ih2 _ _ _ _ _ _ _ _)
   | (with_reducible exact ih3 _ _ _ _ _ _ _ _ _ _)
   | (with_reducible exact impl_CheckOk.mono _ _ _ _ _ _ _)
   | (with_reducible exact impl_KeyOk.mono _ _)
   | (with_reducible exact impl_isPlain.mono _ _)
   | (with_reducible exact LeO.refl _)
   | (with_reducible exact LeO.none _)
   | (with_reducible refine LeO.ite ?_ ?_)
   | (with_reducible refine LeO.bind ?_ (fun _ => ?_))
   | exact ih0 _ _ _
   | exact ih1 _ _ _ _ _
   | exact ih2 _ _ _ _ _ _ _ _
   | exact ih3 _ _ _ _ _ _ _ _ _ _
   | exact impl_CheckOk.mono _ _ _ _ _ _ _
   | exact impl_KeyOk.mono _ _
   | exact impl_isPlain.mono _ _
   | exact LeO.none _
   | refine LeO.ite ?_ ?_
   | refine LeO.bind ?_ (fun _ => ?_)
  ·intro y0 y1 y2 y3 y4
   unfold impl_LocalOk.l0
   repeat' first
   | (with_reducible exact ih0 _ _ _)
   | (with_reducible exact ih1 _ _ _ _ _)
   | (with_reducible exact ih2 _ _ _ _ _ _ _ _)
   | (with_reducible exact ih3 _ _ _ _ _ _ _ _ _ _)
   | (with_reducible exact impl_CheckOk.mono _ _ _ _ _ _ _)
   | (with_reducible exact impl_KeyOk.mono _ _)
   | (with_reducible exact impl_isPlain.mono _ _)
   | (with_reducible exact LeO.refl _)
   | (with_reducible exact LeO.none _)
   | (with_reducible refine LeO.ite ?_ ?_)
   | (with_reducible refine LeO.bind ?_ (fun _ => ?_))
   | exact ih0 _ _ _
   | exact ih1 _ _ _ _ _
   | exact ih2 _ _ _ _ _ _ _ _
   | exact ih3 _ _ _ _ _ _ _ _ _ _
   | exact impl_CheckOk.mono _ _ _ _ _ _ _
   | exact impl_KeyOk.mono _ _
   | exact impl_isPlain.mono _ _
   | exact LeO.none _
   | refine LeO.ite ?_ ?_
   | refine LeO.bind ?_ (fun _ => ?_)
  ·intro y0 y1 y2 y3 y4 y5 y6 y7
   unfold impl_LocalOk.j2
   repeat' first
   | (with_reducible exact ih0 _ _ _)
   | (with_reducible exact ih1 _ _ _ _ _)
   | (with_reducible exact ih2 _ _ _ _ _ _ _ _)
   | (with_reducible exact ih3 _ _ _ _ _ _ _ _ _ _)
   | (with_reducible exact impl_CheckOk.mono _ _ _ _ _ _ _)
   | (with_reducible exact impl_KeyOk.mono _ _)
   | (with_reducible exact impl_isPlain.mono _ _)
   | (with_reducible exact LeO.refl _)
   | (with_reducible exact LeO.none _)
   | (with_reducible refine LeO.ite ?_ ?_)
   | (with_reducible refine LeO.bind ?_ (fun _ => ?_))
   | exact ih0 _ _ _
   | exact ih1 _ _ _ _ _
   | exact ih2 _ _ _ _ _ _ _ _
   | exact ih3 _ _ _ _ _ _ _ _ _ _
   | exact impl_CheckOk.mono _ _ _ _ _ _ _
   | exact impl_KeyOk.mono _ _
   | exact impl_isPlain.mono _ _
   | exact LeO.none _
   | refine LeO.ite ?_ ?_
   | refine LeO.bind ?_ (fun _ => ?_)
  ·intro y0 y1 y2 y3 y4 y5 y6 y7 y8 y9
   unfold impl_LocalOk.l1
   repeat' first
   | (with_reducible exact ih0 _ _ _)
   | (with_reducible exact ih1 _ _ _ _ _)
   | (with_reducible exact ih2 _ _ _ _ _ _ _ _)
   | (with_reducible exact ih3 _ _ _ _ _ _ _ _ _ _)
   | (with_reducible exact impl_CheckOk.mono _ _ _ _ _ _ _)
   | (with_reducible exact impl_KeyOk.mono _ _)
   | (with_reducible exact impl_isPlain.mono _ _)
   | (with_reducible exact LeO.refl _)
   | (with_reducible exact LeO.none _)
   | (with_reducible refine LeO.ite ?_ ?_)
   | (with_reducible refine LeO.bind ?_ (fun _ => ?_))
   | exact ih0 _ _ _
   | exact ih1 _ _ _ _ _
   | exact ih2 _ _ _ _ _ _ _ _
   | exact ih3 _ _ _ _ _ _ _ _ _ _
   | exact impl_CheckOk.mono _ _ _ _ _ _ _
   | exact impl_KeyOk.mono _ _
   | exact impl_isPlain.mono _ _
   | exact LeO.none _
   | refine LeO.ite ?_ ?_
   | refine LeO.bind ?_ (fun _ => ?_)
theorem impl_LocalOk.mono : ∀ a0 a1 k, LeO (impl_LocalOk.f k a0 a1) (impl_LocalOk.f (k + 1) a0 a1) := by
 intro a0 a1 k
 obtain ⟨ih0, ih1, ih2, ih3⟩ := impl_LocalOk.mono_l k
 unfold impl_LocalOk.f
 repeat' first
   | (with_reducible exact ih0 _ _ _)
   | (with_reducible exact ih1 _ _ _ _ _)
   | (with_reducible exact ih2 _ _ _ _ _ _ _ _)
   | (with_reducible exact ih3 _ _ _ _ _ _ _ _ _ _)
   | (with_reducible exact impl_CheckOk.mono _ _ _ _ _ _ _)
   | (with_reducible exact impl_KeyOk.mono _ _)
   | (with_reducible exact impl_isPlain.mono _ _)
   | (with_reducible exact LeO.refl _)
   | (with_reducible exact LeO.none _)
   | (with_reducible refine LeO.ite ?_ ?_)
   | (with_reducible refine LeO.bind ?_ (fun _ => ?_))
   | exact ih0 _ _ _
   | exact ih1 _ _ _ _ _
   | exact ih2 _ _ _ _ _ _ _ _
   | exact ih3 _ _ _ _ _ _ _ _ _ _
   | exact impl_CheckOk.mono _ _ _ _ _ _ _
   | exact impl_KeyOk.mono _ _
   | exact impl_isPlain.mono _ _
   | exact LeO.none _
   | refine LeO.ite ?_ ?_
   | refine LeO.bind ?_ (fun _ => ?_)
def impl_LocalOk.T6 : Bool × List (List Nat × List Nat) := (true, [([], []), ([0], [0]), ([1], [1]), ([2], [2]), ([3, 2], [3]), ([4], [4]), ([4], [4]), ([6, 4], [4, 6]), ([5, 7, 4, 4], [4, 5, 7]), ([8, 8, 4], [4, 8]), ([9, 4], [4, 9]), ([4, 10], [4, 10]), ([11, 9], [11]), ([12], [12]), ([13, 12], [12, 13]), ([14, 12], [12, 14]), ([15, 12], [12, 15]), ([12, 16], [12, 16]), ([17, 12], [17]), ([18], [18]), ([19, 18], [18, 19]), ([20, 18, 18], [18, 20]), ([21], [21]), ([22, 21], [21, 22]), ([21], [21]), ([24, 21], [21, 24]), ([23, 25, 21], [21, 23, 25]), ([26, 21], [21, 26]), ([27, 21], [21, 27]), ([21], [21]), ([29, 21], [21, 29]), ([28, 30, 21, 21], [21, 28, 30]), ([31, 21], [21, 31]), ([21, 32, 18], [18, 21, 32]), ([18, 33], [18, 33])])
def impl_LocalOk.B6 : List Nat := [0, 1, 3, 7, 15, 31, 31, 95, 255, 511, 1023, 2047, 4095, 8191, 16383, 32767, 65535, 131071, 262143, 524287, 1048575, 2097151, 4194303, 8388607, 4194303, 20971519, 67108863, 134217727, 268435455, 4194303, 541065215, 2147483647, 4294967295, 8589934591, 17179869183]
theorem impl_LocalOk.tab6 : rtab .any (opsOf Try.f8 6) = impl_LocalOk.T6 := by kernel_rfl
theorem impl_LocalOk.bits6 : waitsOk impl_LocalOk.T6.2 impl_LocalOk.B6 = true := by kernel_rfl
def impl_LocalOk.T11 : Bool × List (List Nat × List Nat) := (true, [([], []), ([0], [0]), ([1], [1]), ([2, 1], [2]), ([3], [3]), ([4, 3], [3, 4]), ([5, 3, 3], [3, 5]), ([6], [6]), ([7, 6], [6, 7]), ([6], [6]), ([9, 6], [6, 9]), ([8, 10, 6], [6, 8, 10]), ([11, 6], [6, 11]), ([12, 6], [6, 12]), ([6], [6]), ([14, 6], [6, 14]), ([13, 15, 6, 6], [6, 13, 15]), ([16, 6], [6, 16]), ([6, 17, 3], [3, 6, 17]), ([3, 18], [3, 18])])
def impl_LocalOk.B11 : List Nat := [0, 1, 3, 7, 15, 31, 63, 127, 255, 127, 639, 2047, 4095, 8191, 127, 16511, 65535, 131071, 262143, 524287]
theorem impl_LocalOk.tab11 : rtab .any (opsOf Try.f8 11) = impl_LocalOk.T11 := by kernel_rfl
theorem impl_LocalOk.bits11 : waitsOk impl_LocalOk.T11.2 impl_LocalOk.B11 = true := by kernel_rfl
set_option maxHeartbeats 8000000 in
set_option maxRecDepth 100000 in
theorem impl_LocalOk.calls (k : Nat) (A0_0 : Option Addr) (c0_0 : Nat) (l0_0 : List Int) (A0_1 : Option Addr) (c0_1 : Nat) (l0_1 : List (S43)) (r : Bool) (w : World) (hr0_0 : Kd.C (Kd.int .u8) w A0_0 l0_0.length l0_0) (hc0_0 : l0_0.length ≤ c0_0) (hr0_1 : Kd.C k43 w A0_1 l0_1.length l0_1) (hc0_1 : l0_1.length ≤ c0_1) (h : impl_LocalOk.f k l0_0 l0_1 = some r) :
  Calls Try.prog 8 #[.agg #[.slice A0_0 l0_0.length c0_0, .slice A0_1 l0_1.length c0_1]] w fun e w' => e = .returned (.bool r) ∧ Below w.heap.size w w' := by
 have hu30 := Try.underlying30
 have hu43 := Try.underlying43
 have hu47 := Try.underlying47
 have HR0_0 := Aside0.mk hr0_0; have HC0_0 := Aside0.mk hc0_0; clear hr0_0 hc0_0; have HR0_1 := Aside0.mk hr0_1; have HC0_1 := Aside0.mk hc0_1; clear hr0_1 hc0_1
 have HB := Aside0.mk (Below.refl w.heap.size w)
 have H : ((impl_isPlain.f k l0_0).bind fun t248 => (if t248 = true then (impl_LocalOk.j0 k (decide ((l0_1.length : Int) > 6)) l0_0 l0_1) else (impl_LocalOk.j0 k true l0_0 l0_1))) = some r := h
 clear h; have HC2 := Aside0.mk H; clear H; go_enter Try.func8, Try.ntmps8
 go_upto_region 1 with (first | ((with_reducible refine gate_dst (N := 1) rfl ?_); (try (refine gate_guard (by rfl) ?_; dsimp only)); refine box_event ?hg (N := 1) ?hd (cs := #[.slice A0_0 l0_0.length c0_0, .slice A0_1 l0_1.length c0_1]) (t := 30) ?hr ?_; (case hd => rfl); (case hg => rfl); (case hr => first | (go_simp; done) | (go_simp; rfl)); intro gb247 hg w3 hbox hb; have n_ := an (below_step (by exact bel0) hb) (an (hbox) (an ((by rw [hg]; exact (below_size (by exact bel0)) : w.heap.size ≤ gb247)) (an ((by rw [hg]; exact (below_size (by exact bel0)) : w.heap.size ≤ gb247)) (trivial)))); clear HB; obtain ⟨HB, BK247, GW247, GE247, -⟩ := n_; clear hb hbox hg))
 (try simp only [Act.put, List.setIfInBounds_toArray, List.set_cons_zero, List.set_cons_succ])
 go_cut [16] (fun v16 wc => ∃ (kq : Nat) (x16_1 : Bool), v16 = .bool x16_1 ∧ Aside0 (impl_LocalOk.j0 kq x16_1 l0_0 l0_1 = some r) ∧ Aside0 (kq ≤ k) ∧ Aside0 (wc.heap[gb247]? = some (.cells #[(.slice A0_0 l0_0.length c0_0), (.slice A0_1 l0_1.length c0_1)] 30 (0, 0))) ∧ Aside0 (Below w.heap.size w wc))
 case first =>
  have H := HC2.out; clear HC2; replace H := Option.bind_eq_some_iff.mp H; obtain ⟨t248, A40, H⟩ := H; have A4 := Aside0.mk A40; clear A40; obtain ⟨hcz5_0, hcz5_1⟩ := blkz2 BK247.out; have hfz5_0 := blkf BK247.out
  replace H := Aside0.mk H
  go_wp2_with (first | ((with_reducible refine gate_callee (f := 22) rfl ?_); refine goesL_ (some 9) rfl rfl Try.func22 (by kernel_rfl) rfl #[.slice A0_0 l0_0.length c0_0] rfl (by (try simp only [List.map_toArray, List.map_cons, List.map_nil]); first | done | rfl | (simp only [List.length_drop, List.length_take]; rfl)) ?_; (with_reducible refine (impl_isPlain.calls k _ _ l0_0 t248 _ ?side1 ?side2 A4.out).mono ?_); (case side1 => repeat (first | exact (Kd.C_below HR0_0.out HB.out) | (with_reducible refine Kd.C_alloc ?_ _) | (with_reducible refine Kd.C_drewN ?_ _) | (with_reducible refine Kd.C_drew ?_))); (case side2 => exact HC0_0.out); rintro e w' ⟨rfl, ⟨nd, rfl⟩⟩; refine ⟨_, rfl, ?_⟩; refine Stop.out ?_))
  refine Stop.mk ?_
  replace H := H.out
  by_cases c6 : t248 = true
  ·subst c6; rw [if_pos rfl] at H
   have H' := Aside0.mk H
   clear H; obtain ⟨hcz7_0, hcz7_1⟩ := blkz2 BK247.out; have hfz7_0 := blkf BK247.out
   go_wp2
   go_meet
   case rel => exact ⟨_, (decide ((l0_1.length : Int) > 6)), (by first | rfl | (simp; done) | (simp [*]; done)), H', ⟨by first | omega | exact Nat.le_refl _⟩, ⟨by exact blk_nw BK247.out⟩, ⟨by exact bel0⟩⟩
  ·replace c6 := Bool.eq_false_iff.mpr c6
   subst c6
   rw [if_neg (show ¬ (false = true) by decide)] at H
   have H' := Aside0.mk H
   clear H
   go_wp2
   go_meet
   case rel => exact ⟨_, (true), (by first | rfl | (simp; done) | (simp [*]; done)), H', ⟨by first | omega | exact Nat.le_refl _⟩, ⟨by exact blk_nw BK247.out⟩, ⟨by exact bel0⟩⟩
 case rest =>
  clear HC2; try clear c2; try clear p2; try clear c6; try clear hcz5_0; try clear hcz5_1; try clear hcz7_0; try clear hcz7_1; try clear hfz5_0; try clear hfz5_1; try clear hfz7_0; try clear hfz7_1
  obtain ⟨kq, x16_1, rfl, HA, HJ1, BK247, HB⟩ := hcut
  cases kq with
  | zero => exact absurd HA.out (by simp [impl_LocalOk.j0])
  | succ kj1 =>
   have H := HA.out; clear HA
   simp only [impl_LocalOk.j0] at H
   by_cases c8 : x16_1 = true
   ·subst c8; rw [if_pos rfl] at H
    obtain rfl := Option.some.inj H
    go_wp2
    go_ret
    exact ⟨by first | rfl | (simp [errW_none, errW_some] <;> rfl) | (simp [*, errW_none, errW_some] <;> rfl), by exact bel0⟩
   ·replace c8 := Bool.eq_false_iff.mpr c8
    subst c8
    rw [if_neg (show ¬ (false = true) by decide)] at H
    have H' := Aside0.mk H
    clear H; obtain ⟨hcz9_0, hcz9_1⟩ := blkz2 BK247.out; have hfz9_0 := blkf BK247.out
    go_wp2
    go_loopg [20] kj1 (fun kq v20 w' => ∃ (x20_2 : Int), v20 = .int .i64 x20_2 ∧ Aside0 (impl_LocalOk.l0 kq l0_1 (l0_1.length : Int) x20_2 l0_0 l0_1 = some r) ∧ Aside0 (kq ≤ kj1) ∧ Aside0 (w'.heap[gb247]? = some (.cells #[(.slice A0_0 l0_0.length c0_0), (.slice A0_1 l0_1.length c0_1)] 30 (0, 0))) ∧ Aside0 (Below w.heap.size w w'))
    case atStart => exact ⟨(0), (by first | rfl | (simp; done) | (simp [*]; done)), H', ⟨Nat.le_refl _⟩, ⟨by exact blk_nw BK247.out⟩, ⟨by exact bel0⟩⟩
    case round =>
     clear H'
     try clear c2; try clear p2; try clear c6; try clear c8; try clear hcz5_0; try clear hcz5_1; try clear hcz7_0; try clear hcz7_1; try clear hcz9_0; try clear hcz9_1; try clear hfz5_0; try clear hfz5_1; try clear hfz7_0; try clear hfz7_1; try clear hfz9_0; try clear hfz9_1; try clear p2
     obtain ⟨x20_2, rfl, HA, HK2, BK247, HB⟩ := hrel
     cases gk with
     | zero => exact absurd HA.out (by simp [impl_LocalOk.l0])
     | succ k2 =>
      have H := HA.out; clear HA
      simp only [impl_LocalOk.l0] at H
      by_cases c10 : x20_2 < (l0_1.length : Int)
      ·rw [if_pos c10] at H
       have c10b0 : decide (x20_2 < (l0_1.length : Int)) = true := decide_eq_true c10
       clear c10; (try simp only [c10b0])
       by_cases c11 : 0 ≤ x20_2
       ·rw [if_pos c11] at H; have c11b0 : decide (0 ≤ x20_2) = true := decide_eq_true c11; clear c11; (try simp only [c11b0])
        by_cases c12 : x20_2 < (l0_1.length : Int)
        ·rw [if_pos c12] at H
         have c12b0 : decide (x20_2 < (l0_1.length : Int)) = true := decide_eq_true c12
         clear c12; (try simp only [c12b0]); have HC13 := Aside0.mk H; clear H
         have p249 : 0 ≤ (x20_2 : Int) := of_decide_eq_true (by first | (with_reducible assumption) | assumption)
         have q249 : x20_2 < (l0_1.length : Int) := of_decide_eq_true (by first | (with_reducible assumption) | assumption)
         obtain ⟨ad249, A249_0, c249_0, A249_1, c249_1, e249, hx249_0, hx249_1, hl249_0, hi249_0, hl249_1, hi249_1⟩ := at_T43 HR0_1.out x20_2 p249 q249
         cases e249
         replace hx249_0 := (HB.out.cell (World.block_lt_of_cell? w _ hx249_0)).trans hx249_0
         replace hx249_1 := (HB.out.cell (World.block_lt_of_cell? w _ hx249_1)).trans hx249_1
         have HR249_0 := Aside0.mk hi249_0; have HC249_0 := Aside0.mk hl249_0; clear hi249_0 hl249_0; have HR249_1 := Aside0.mk hi249_1; have HC249_1 := Aside0.mk hl249_1; clear hi249_1 hl249_1
         replace p249 := eq_true p249
         replace q249 := eq_true q249
         go_upto_region 6 with (first | ((with_reducible refine gate_dst (N := 4) rfl ?_); (try (refine gate_guard (by rfl) ?_; dsimp only)); refine box_event ?hg (N := 4) ?hd (cs := #[.slice none 0 0, .slice none 0 0]) (t := 43) ?hr ?_; (case hd => rfl); (case hg => rfl); (case hr => first | (go_simp; done) | (go_simp; rfl)); intro gb250 hg w14 hbox hb; have n_ := an (blk_below (blk_nw BK247.out) hb) (an (below_step (by exact bel0) hb) (an (hbox) (an ((by rw [hg]; exact (below_size (by exact bel0)) : w.heap.size ≤ gb250)) (an ((by rw [hg]; exact (below_size (by exact bel0)) : w.heap.size ≤ gb250)) (an ((by rw [hg]; exact Nat.ne_of_lt (blk_lt (blk_nw BK247.out)) : gb247 ≠ gb250)) (an ((by rw [hg]; exact Nat.ne_of_gt (blk_lt (blk_nw BK247.out)) : gb250 ≠ gb247)) (trivial))))))); clear BK247 HB; obtain ⟨BK247, HB, BK250, GW250, GE250, NB247_250, NB250_247, -⟩ := n_; clear hb hbox hg; have hnb15 := NB250_247.out; have hnc15 := NB247_250.out; obtain ⟨hcz16_0, hcz16_1⟩ := blkz2 BK250.out; have hfz16_0 := blkf BK250.out))
         (try simp only [Act.put, List.setIfInBounds_toArray, List.set_cons_zero, List.set_cons_succ])
         go_cut [59] (fun v59 wc => ∃ (kq : Nat) (x59_12 : Bool), v59 = .bool x59_12 ∧ Aside0 (impl_LocalOk.j2 kq l0_1 (l0_1.length : Int) x20_2 x59_12 l0_0 l0_1 ((rd_T43 l0_1 x20_2).f0) ((rd_T43 l0_1 x20_2).f1) = some r) ∧ Aside0 (kq ≤ k2) ∧ Aside0 (wc.heap[gb247]? = some (.cells #[(.slice A0_0 l0_0.length c0_0), (.slice (some ad249) l0_1.length c0_1)] 30 (0, 0))) ∧ Aside0 (wc.heap[gb250]? = some (.cells #[(.slice A249_0 ((rd_T43 l0_1 x20_2).f0).length c249_0), (.slice A249_1 ((rd_T43 l0_1 x20_2).f1).length c249_1)] 43 (0, 0))) ∧ Aside0 (Below w.heap.size w wc))
         case first =>
          have H := HC13.out; clear HC13; replace H := Option.bind_eq_some_iff.mp H; obtain ⟨t251, A170, H⟩ := H; have A17 := Aside0.mk A170; clear A170
          by_cases c18 : t251 = true
          ·subst c18; rw [if_pos rfl] at H; replace H := Option.bind_eq_some_iff.mp H; obtain ⟨t252, A190, H⟩ := H; have A19 := Aside0.mk A190; clear A190; replace H := Option.bind_eq_some_iff.mp H; obtain ⟨t255, A200, H⟩ := H; have A20 := Aside0.mk A200; clear A200
           by_cases c21 : t255 = true
           ·subst c21; rw [if_pos rfl] at H
            by_cases c22 : (((rd_T43 l0_1 x20_2).f1).length : Int) > 4
            ·rw [if_pos c22] at H
             have c22b0 : decide (4 < (((rd_T43 l0_1 x20_2).f1).length : Int)) = true := decide_eq_true c22
             have c22b1 : decide (4 < ((rd_T43 l0_1 x20_2).f1).length) = true := decide_eq_true (by omega)
             clear c22; (try simp only [c22b0])
             (first | rw [c22b0] | (simp only [i64_w, i32_w]; rw [c22b0]) | skip)
             have H' := Aside0.mk H
             clear H
             try go_wp2
             have n0_ : Aside0 (((w14.setCell ⟨gb250, 0, none⟩ (.slice A249_0 ((rd_T43 l0_1 x20_2).f0).length c249_0)).setCell ⟨gb250, 1, none⟩ (.slice A249_1 ((rd_T43 l0_1 x20_2).f1).length c249_1)).heap[gb247]? = some (.cells #[.slice A0_0 l0_0.length c0_0, .slice (some ad249) l0_1.length c0_1] 30 (0, 0))) := ⟨by exact blk_kb BK247.out NB247_250.out⟩
             have n1_ : Aside0 (((w14.setCell ⟨gb250, 0, none⟩ (.slice A249_0 ((rd_T43 l0_1 x20_2).f0).length c249_0)).setCell ⟨gb250, 1, none⟩ (.slice A249_1 ((rd_T43 l0_1 x20_2).f1).length c249_1)).heap[gb250]? = some (.cells #[.slice A249_0 ((rd_T43 l0_1 x20_2).f0).length c249_0, .slice A249_1 ((rd_T43 l0_1 x20_2).f1).length c249_1] 43 (0, 0))) := ⟨by (with_reducible repeat (first | refine blk_drewN ?_ _ | refine blk_drew ?_ | refine blk_alloc ?_ _)); exact blk_fill2 BK250.out⟩
             have n2_ : Aside0 (Below w.heap.size w ((w14.setCell ⟨gb250, 0, none⟩ (.slice A249_0 ((rd_T43 l0_1 x20_2).f0).length c249_0)).setCell ⟨gb250, 1, none⟩ (.slice A249_1 ((rd_T43 l0_1 x20_2).f1).length c249_1))) := ⟨by exact bel0⟩
             (try clear BK247); (try clear BK250); (try clear HB)
             generalize ((w14.setCell ⟨gb250, 0, none⟩ (.slice A249_0 ((rd_T43 l0_1 x20_2).f0).length c249_0)).setCell ⟨gb250, 1, none⟩ (.slice A249_1 ((rd_T43 l0_1 x20_2).f1).length c249_1)) = w23 at n0_ n1_ n2_ ⊢
             have BK247 := n0_
             have BK250 := n1_
             have HB := n2_
             clear n0_ n1_ n2_
             have n_ := an (blk_drew BK247.out) (an (blk_drew BK250.out) (an (below_drew1 HB.out) (trivial)))
             clear BK247 BK250 HB
             obtain ⟨BK247, BK250, HB, -⟩ := n_
             refine start_ (n := 35) (S := fun w' => w'.cell? ⟨gb250, 0, none⟩ = some (.slice A249_0 ((rd_T43 l0_1 x20_2).f0).length c249_0) ∧ w'.cell? ⟨gb250, 1, none⟩ = some (.slice A249_1 ((rd_T43 l0_1 x20_2).f1).length c249_1) ∧ w'.cell? ⟨gb247, 0, none⟩ = some (.slice A0_0 l0_0.length c0_0) ∧ w'.cell? ⟨gb247, 1, none⟩ = some (.slice (some ad249) l0_1.length c0_1)) (ds := []) b6z0_ (by kernel_rfl) rfl rfl ⟨(blk_cell BK250.out 0).trans rfl, (blk_cell BK250.out 1).trans rfl, (blk_cell BK247.out 0).trans rfl, (blk_cell BK247.out 1).trans rfl⟩ (fun hHeld => ?_); refine with_tabW impl_LocalOk.tab6 impl_LocalOk.bits6 (fun HT_ HW_ => ?_)
             generalize w23.drew = w24 at BK247 BK250 HB hHeld ⊢
             refine pure_ (i := 0) (N := some 25) (v := ?_) (a' := ?_) b6z1_ rfl rfl (any_of HT_.out (by kernel_rfl)) (fun _ _ _ h => h) (Or.inl ⟨by rfl, ?_⟩) ?_ ?_
             rotate_left; · intro w'; go_simp; with_reducible rfl
             rotate_left; · simp only [Act.put, List.setIfInBounds_toArray, List.set_cons_zero, List.set_cons_succ, i64_w, i32_w]; rfl
             refine take_ (i := 1) (N := some 26) (v := ?_) (a' := ?_) b6z2_ rfl rfl (take_ofW HT_.out HW_.out (by kernel_rfl)) (fun _ _ _ h => h) (Or.inl ⟨by rfl, ?_⟩) hHeld ?_ ?_
             rotate_left
             ·rintro w' ⟨s0, s1, s2, s3⟩
              go_simp
              with_reducible rfl
             rotate_left; · simp only [Act.put, List.setIfInBounds_toArray, List.set_cons_zero, List.set_cons_succ, i64_w, i32_w]; rfl
             refine one_ (i := 2) (N := some 27) b6z3_ rfl rfl (one_of HT_.out (by kernel_rfl)) (by decide) (fun K hK => ?_)
             refine goes_ Try.func22 (by kernel_rfl) rfl #[.slice A249_0 ((rd_T43 l0_1 x20_2).f0).length c249_0] (by rfl) rfl rfl (by (try simp only [List.map_toArray, List.map_cons, List.map_nil]); first | done | rfl | (simp only [List.length_drop, List.length_take]; rfl)) ?_
             with_reducible refine (impl_isPlain.calls k2 _ _ ((rd_T43 l0_1 x20_2).f0) true _ ?side1 ?side2 A17.out).mono ?_
             (case side1 => repeat (first | exact (Kd.C_below HR249_0.out HB.out) | (with_reducible refine Kd.C_alloc ?_ _) | (with_reducible refine Kd.C_drewN ?_ _) | (with_reducible refine Kd.C_drew ?_)))
             (case side2 => exact HC249_0.out)
             rintro e w' ⟨rfl, ⟨nd, rfl⟩⟩
             refine ⟨_, rfl, ?_⟩
             refine hK.out _ _ ⟨(blk_cell BK250.out 0).trans rfl, (blk_cell BK250.out 1).trans rfl, (blk_cell BK247.out 0).trans rfl, (blk_cell BK247.out 1).trans rfl⟩ (fun hHeld => ?_)
             clear hK K
             refine norm_ (a' := ?_) ?_ ?_
             rotate_left
             ·show Act.put _ (some 27) _ = _
              simp only [Act.put, List.setIfInBounds_toArray, List.set_cons_zero, List.set_cons_succ, i64_w, i32_w]
              rfl
             refine pure_ (i := 3) (N := some 28) (v := ?_) (a' := ?_) b6z4_ rfl rfl (any_of HT_.out (by kernel_rfl)) (fun _ _ _ h => h) (Or.inl ⟨by rfl, ?_⟩) ?_ ?_
             rotate_left; · intro w'; go_simp; with_reducible rfl
             rotate_left; · simp only [Act.put, List.setIfInBounds_toArray, List.set_cons_zero, List.set_cons_succ, i64_w, i32_w]; rfl
             refine pure_ (i := 4) (N := some 29) (v := ?_) (a' := ?_) b6z5_ rfl rfl (any_of HT_.out (by kernel_rfl)) (fun _ _ _ h => h) (Or.inl ⟨by rfl, ?_⟩) ?_ ?_
             rotate_left; · intro w'; go_simp; with_reducible rfl
             rotate_left; · simp only [Act.put, List.setIfInBounds_toArray, List.set_cons_zero, List.set_cons_succ, i64_w, i32_w]; rfl
             refine pure_ (i := 6) (N := some 31) (v := ?_) (a' := ?_) b6z6_ rfl rfl (any_of HT_.out (by kernel_rfl)) (fun _ _ _ h => h) (Or.inl ⟨by rfl, ?_⟩) ?_ ?_
             rotate_left; · intro w'; go_simp; with_reducible rfl
             rotate_left; · simp only [Act.put, List.setIfInBounds_toArray, List.set_cons_zero, List.set_cons_succ, i64_w, i32_w]; rfl
             refine take_ (i := 5) (N := some 30) (v := ?_) (a' := ?_) b6z7_ rfl rfl (take_ofW HT_.out HW_.out (by kernel_rfl)) (fun _ _ _ h => h) (Or.inl ⟨by rfl, ?_⟩) hHeld ?_ ?_
             rotate_left
             ·rintro w' ⟨s0, s1, s2, s3⟩
              go_simp
              with_reducible rfl
             rotate_left; · simp only [Act.put, List.setIfInBounds_toArray, List.set_cons_zero, List.set_cons_succ, i64_w, i32_w]; rfl
             refine take_ (i := 7) (N := some 32) (v := ?_) (a' := ?_) b6z8_ rfl rfl (take_ofW HT_.out HW_.out (by kernel_rfl)) (fun _ _ _ h => h) (Or.inl ⟨by rfl, ?_⟩) hHeld ?_ ?_
             rotate_left
             ·rintro w' ⟨s0, s1, s2, s3⟩
              go_simp
              with_reducible rfl
             rotate_left; · simp only [Act.put, List.setIfInBounds_toArray, List.set_cons_zero, List.set_cons_succ, i64_w, i32_w]; rfl
             refine one_ (i := 8) (N := some 33) b6z9_ rfl rfl (one_of HT_.out (by kernel_rfl)) (by decide) (fun K hK => ?_)
             refine goes_ Try.func24 (by kernel_rfl) rfl #[.agg #[.slice A0_0 l0_0.length c0_0, .slice (some ad249) l0_1.length c0_1], .slice A249_0 ((rd_T43 l0_1 x20_2).f0).length c249_0] (by rfl) rfl rfl (by (try simp only [List.map_toArray, List.map_cons, List.map_nil]); first | done | rfl | (simp only [List.length_drop, List.length_take]; rfl)) ?_
             with_reducible refine (impl_Local_catalogKey.calls _ _ l0_0 _ _ l0_1 (fun k_ => k_ < w.heap.size) _ _ ((rd_T43 l0_1 x20_2).f0) t252 _ ?side1 ?side2 ?side3 ?side4 ?side5 A19.out).mono ?_
             (case side1 => repeat (first | exact (Kd.C_below HR0_0.out (by exact bel0)) | (with_reducible refine Kd.C_alloc ?_ _) | (with_reducible refine Kd.C_drewN ?_ _) | (with_reducible refine Kd.C_drew ?_)))
             (case side2 => exact HC0_0.out)
             (case side3 => repeat (first | exact (Kd.C_below HR0_1.out (by exact bel0)) | (with_reducible refine Kd.C_alloc ?_ _) | (with_reducible refine Kd.C_drewN ?_ _) | (with_reducible refine Kd.C_drew ?_)))
             (case side4 => exact HC0_1.out)
             (case side5 => exact Kd.V_mk HC249_0.out (Kd.F_below (Kd.C_F (Kd.heap_int .u8) HR249_0.out) (by exact bel0)))
             rintro e w25 ⟨v253, rfl, ho0, hb⟩
             refine ⟨_, rfl, ?_⟩
             have n_ := an (Kd.R_lower (Kd.R_mono (ok' := fun k_ => True) ho0 (fun _ hk_ => trivial)) (below_size (by exact bel0))) (an (blk_below (blk_nw BK247.out) hb) (an (blk_below (blk_nw BK250.out) hb) (an (below_step (by exact bel0) hb) (trivial))))
             clear BK247 BK250 HB
             obtain ⟨HO254, BK247, BK250, HB, -⟩ := n_
             (try clear hb); (try clear hb2); (try clear hk); (try clear hi); (try clear ho0)
             obtain ⟨Ao26, co26, eo26⟩ := Kd.R_slice HO254.out
             (first | subst eo26 | (injection eo26 with f1_ f2_ f3_; have f4_ := f1_.symm; have f5_ := f3_.symm; clear f1_ f2_ f3_; subst f4_; subst f5_))
             refine hK.out _ _ ⟨(blk_cell BK250.out 0).trans rfl, (blk_cell BK250.out 1).trans rfl, (blk_cell BK247.out 0).trans rfl, (blk_cell BK247.out 1).trans rfl⟩ (fun hHeld => ?_)
             clear hK K
             refine norm_ (a' := ?_) ?_ ?_
             rotate_left
             ·show Act.put _ (some 33) _ = _
              simp only [Act.put, List.setIfInBounds_toArray, List.set_cons_zero, List.set_cons_succ, i64_w, i32_w]
              rfl
             refine one_ (i := 9) (N := some 34) b6z10_ rfl rfl (one_of HT_.out (by kernel_rfl)) (by decide) (fun K hK => ?_)
             refine goes_ Try.func23 (by kernel_rfl) rfl #[.slice Ao26 t252.length co26] (by rfl) rfl rfl (by (try simp only [List.map_toArray, List.map_cons, List.map_nil]); first | done | rfl | (simp only [List.length_drop, List.length_take]; rfl)) ?_
             with_reducible refine (impl_KeyOk.calls k2 _ _ t252 true _ ?side1 ?side2 A20.out).mono ?_
             (case side1 => repeat (first | exact (Kd.R_reads' HO254.out).2.2 | (with_reducible refine Kd.C_alloc ?_ _) | (with_reducible refine Kd.C_drewN ?_ _) | (with_reducible refine Kd.C_drew ?_)))
             (case side2 => exact (Kd.R_reads' HO254.out).2.1)
             rintro e w' ⟨rfl, ⟨nd, rfl⟩⟩
             refine ⟨_, rfl, ?_⟩
             refine hK.out _ _ ⟨(blk_cell BK250.out 0).trans rfl, (blk_cell BK250.out 1).trans rfl, (blk_cell BK247.out 0).trans rfl, (blk_cell BK247.out 1).trans rfl⟩ (fun hHeld => ?_)
             clear hK K
             refine norm_ (a' := ?_) ?_ ?_
             rotate_left
             ·show Act.put _ (some 34) _ = _
              simp only [Act.put, List.setIfInBounds_toArray, List.set_cons_zero, List.set_cons_succ, i64_w, i32_w]
              rfl
             refine pure_ (i := 10) (N := some 35) (v := ?_) (a' := ?_) b6z11_ rfl rfl (any_of HT_.out (by kernel_rfl)) (fun _ _ _ h => h) (Or.inl ⟨by rfl, ?_⟩) ?_ ?_
             rotate_left; · intro w'; go_simp; with_reducible rfl
             rotate_left; · simp only [Act.put, List.setIfInBounds_toArray, List.set_cons_zero, List.set_cons_succ, i64_w, i32_w]; rfl
             refine pure_ (i := 11) (N := some 36) (v := ?_) (a' := ?_) b6z12_ rfl rfl (any_of HT_.out (by kernel_rfl)) (fun _ _ _ h => h) (Or.inl ⟨by rfl, ?_⟩) ?_ ?_
             rotate_left; · intro w'; go_simp; with_reducible rfl
             rotate_left; · simp only [Act.put, List.setIfInBounds_toArray, List.set_cons_zero, List.set_cons_succ, i64_w, i32_w]; rfl
             refine pure_ (i := 12) (N := some 37) (v := ?_) (a' := ?_) b6z13_ rfl rfl (any_of HT_.out (by kernel_rfl)) (fun _ _ _ h => h) (Or.inl ⟨by rfl, ?_⟩) ?_ ?_
             rotate_left; · intro w'; go_simp; with_reducible rfl
             rotate_left; · simp only [Act.put, List.setIfInBounds_toArray, List.set_cons_zero, List.set_cons_succ, i64_w, i32_w]; rfl
             refine pure_ (i := 13) (N := some 38) (v := ?_) (a' := ?_) b6z14_ rfl rfl (any_of HT_.out (by kernel_rfl)) (fun _ _ _ h => h) (Or.inl ⟨by rfl, ?_⟩) ?_ ?_
             rotate_left; · intro w'; go_simp; with_reducible rfl
             rotate_left; · simp only [Act.put, List.setIfInBounds_toArray, List.set_cons_zero, List.set_cons_succ, i64_w, i32_w]; rfl
             refine take_ (i := 14) (N := some 39) (v := ?_) (a' := ?_) b6z15_ rfl rfl (take_ofW HT_.out HW_.out (by kernel_rfl)) (fun _ _ _ h => h) (Or.inl ⟨by rfl, ?_⟩) hHeld ?_ ?_
             rotate_left
             ·rintro w' ⟨s0, s1, s2, s3⟩
              go_simp
              with_reducible rfl
             rotate_left; · simp only [Act.put, List.setIfInBounds_toArray, List.set_cons_zero, List.set_cons_succ, i64_w, i32_w]; rfl
             refine pure_ (i := 15) (N := some 40) (v := ?_) (a' := ?_) b6z16_ rfl rfl (any_of HT_.out (by kernel_rfl)) (fun _ _ _ h => h) (Or.inl ⟨by rfl, ?_⟩) ?_ ?_
             rotate_left; · intro w'; go_simp; with_reducible rfl
             rotate_left; · simp only [Act.put, List.setIfInBounds_toArray, List.set_cons_zero, List.set_cons_succ, i64_w, i32_w]; rfl
             refine pure_ (i := 16) (N := some 41) (v := ?_) (a' := ?_) b6z17_ rfl rfl (any_of HT_.out (by kernel_rfl)) (fun _ _ _ h => h) (Or.inl ⟨by rfl, ?_⟩) ?_ ?_
             rotate_left; · intro w'; go_simp; with_reducible rfl
             rotate_left; · simp only [Act.put, List.setIfInBounds_toArray, List.set_cons_zero, List.set_cons_succ, i64_w, i32_w]; rfl
             refine pure_ (i := 17) (N := some 42) (v := ?_) (a' := ?_) b6z18_ rfl rfl (any_of HT_.out (by kernel_rfl)) (fun _ _ _ h => h) (Or.inl ⟨by rfl, ?_⟩) ?_ ?_
             rotate_left; · intro w'; go_simp; with_reducible rfl
             rotate_left; · simp only [Act.put, List.setIfInBounds_toArray, List.set_cons_zero, List.set_cons_succ, i64_w, i32_w]; rfl
             refine pure_ (i := 18) (N := some 43) (v := ?_) (a' := ?_) b6z19_ rfl rfl (any_of HT_.out (by kernel_rfl)) (fun _ _ _ h => h) (Or.inl ⟨by rfl, ?_⟩) ?_ ?_
             rotate_left; · intro w'; go_simp; with_reducible rfl
             rotate_left; · simp only [Act.put, List.setIfInBounds_toArray, List.set_cons_zero, List.set_cons_succ, i64_w, i32_w]; rfl
             refine pure_ (i := 19) (N := some 44) (v := undef) (a' := ?_) b6z20_ rfl rfl (any_of HT_.out (by kernel_rfl)) (fun _ _ _ h => h) (Or.inr ⟨by rfl, rfl⟩) ?_ ?_
             rotate_left; · simp only [Act.put, List.setIfInBounds_toArray, List.set_cons_zero, List.set_cons_succ, i64_w, i32_w]; rfl
             refine pure_ (i := 20) (N := some 45) (v := undef) (a' := ?_) b6z21_ rfl rfl (any_of HT_.out (by kernel_rfl)) (fun _ _ _ h => h) (Or.inr ⟨by rfl, rfl⟩) ?_ ?_
             rotate_left; · simp only [Act.put, List.setIfInBounds_toArray, List.set_cons_zero, List.set_cons_succ, i64_w, i32_w]; rfl
             refine pure_ (i := 21) (N := some 46) (v := undef) (a' := ?_) b6z22_ rfl rfl (any_of HT_.out (by kernel_rfl)) (fun _ _ _ h => h) (Or.inr ⟨by rfl, rfl⟩) ?_ ?_
             rotate_left; · simp only [Act.put, List.setIfInBounds_toArray, List.set_cons_zero, List.set_cons_succ, i64_w, i32_w]; rfl
             refine pure_ (i := 22) (N := some 47) (v := undef) (a' := ?_) b6z23_ rfl rfl (any_of HT_.out (by kernel_rfl)) (fun _ _ _ h => h) (Or.inr ⟨by rfl, rfl⟩) ?_ ?_
             rotate_left; · simp only [Act.put, List.setIfInBounds_toArray, List.set_cons_zero, List.set_cons_succ, i64_w, i32_w]; rfl
             refine pure_ (i := 23) (N := some 48) (v := undef) (a' := ?_) b6z24_ rfl rfl (any_of HT_.out (by kernel_rfl)) (fun _ _ _ h => h) (Or.inr ⟨by rfl, rfl⟩) ?_ ?_
             rotate_left; · simp only [Act.put, List.setIfInBounds_toArray, List.set_cons_zero, List.set_cons_succ, i64_w, i32_w]; rfl
             refine pure_ (i := 24) (N := some 49) (v := undef) (a' := ?_) b6z25_ rfl rfl (any_of HT_.out (by kernel_rfl)) (fun _ _ _ h => h) (Or.inr ⟨by rfl, rfl⟩) ?_ ?_
             rotate_left; · simp only [Act.put, List.setIfInBounds_toArray, List.set_cons_zero, List.set_cons_succ, i64_w, i32_w]; rfl
             refine pure_ (i := 25) (N := some 50) (v := undef) (a' := ?_) b6z26_ rfl rfl (any_of HT_.out (by kernel_rfl)) (fun _ _ _ h => h) (Or.inr ⟨by rfl, rfl⟩) ?_ ?_
             rotate_left; · simp only [Act.put, List.setIfInBounds_toArray, List.set_cons_zero, List.set_cons_succ, i64_w, i32_w]; rfl
             refine pure_ (i := 26) (N := some 51) (v := undef) (a' := ?_) b6z27_ rfl rfl (any_of HT_.out (by kernel_rfl)) (fun _ _ _ h => h) (Or.inr ⟨by rfl, rfl⟩) ?_ ?_
             rotate_left; · simp only [Act.put, List.setIfInBounds_toArray, List.set_cons_zero, List.set_cons_succ, i64_w, i32_w]; rfl
             refine pure_ (i := 27) (N := some 52) (v := undef) (a' := ?_) b6z28_ rfl rfl (any_of HT_.out (by kernel_rfl)) (fun _ _ _ h => h) (Or.inr ⟨by rfl, rfl⟩) ?_ ?_
             rotate_left; · simp only [Act.put, List.setIfInBounds_toArray, List.set_cons_zero, List.set_cons_succ, i64_w, i32_w]; rfl
             refine pure_ (i := 28) (N := some 53) (v := undef) (a' := ?_) b6z29_ rfl rfl (any_of HT_.out (by kernel_rfl)) (fun _ _ _ h => h) (Or.inr ⟨by rfl, rfl⟩) ?_ ?_
             rotate_left; · simp only [Act.put, List.setIfInBounds_toArray, List.set_cons_zero, List.set_cons_succ, i64_w, i32_w]; rfl
             refine pure_ (i := 29) (N := some 54) (v := undef) (a' := ?_) b6z30_ rfl rfl (any_of HT_.out (by kernel_rfl)) (fun _ _ _ h => h) (Or.inr ⟨by rfl, rfl⟩) ?_ ?_
             rotate_left; · simp only [Act.put, List.setIfInBounds_toArray, List.set_cons_zero, List.set_cons_succ, i64_w, i32_w]; rfl
             refine pure_ (i := 30) (N := some 55) (v := undef) (a' := ?_) b6z31_ rfl rfl (any_of HT_.out (by kernel_rfl)) (fun _ _ _ h => h) (Or.inr ⟨by rfl, rfl⟩) ?_ ?_
             rotate_left; · simp only [Act.put, List.setIfInBounds_toArray, List.set_cons_zero, List.set_cons_succ, i64_w, i32_w]; rfl
             refine pure_ (i := 31) (N := some 56) (v := undef) (a' := ?_) b6z32_ rfl rfl (any_of HT_.out (by kernel_rfl)) (fun _ _ _ h => h) (Or.inr ⟨by rfl, rfl⟩) ?_ ?_
             rotate_left; · simp only [Act.put, List.setIfInBounds_toArray, List.set_cons_zero, List.set_cons_succ, i64_w, i32_w]; rfl
             refine pure_ (i := 32) (N := some 57) (v := undef) (a' := ?_) b6z33_ rfl rfl (any_of HT_.out (by kernel_rfl)) (fun _ _ _ h => h) (Or.inr ⟨by rfl, rfl⟩) ?_ ?_
             rotate_left; · simp only [Act.put, List.setIfInBounds_toArray, List.set_cons_zero, List.set_cons_succ, i64_w, i32_w]; rfl
             refine pure_ (i := 33) (N := some 58) (v := undef) (a' := ?_) b6z34_ rfl rfl (any_of HT_.out (by kernel_rfl)) (fun _ _ _ h => h) (Or.inr ⟨by rfl, rfl⟩) ?_ ?_
             rotate_left; · simp only [Act.put, List.setIfInBounds_toArray, List.set_cons_zero, List.set_cons_succ, i64_w, i32_w]; rfl
             refine pure_ (i := 34) (N := some 59) (v := ?_) (a' := ?_) b6z35_ rfl rfl (any_of HT_.out (by kernel_rfl)) (fun _ _ _ h => h) (Or.inl ⟨by rfl, ?_⟩) ?_ ?_
             rotate_left; · intro w'; go_simp; with_reducible rfl
             rotate_left; · simp only [Act.put, List.setIfInBounds_toArray, List.set_cons_zero, List.set_cons_succ, i64_w, i32_w]; rfl
             refine done_ (done_of HT_.out (by kernel_rfl)) ?_
             try go_wp2
             go_meet
             case rel => exact ⟨_, (true), (by first | rfl | (simp; done) | (simp [*]; done)), H', ⟨by have := HJ1.out; have := HK2.out; first | omega | exact Nat.le_refl _⟩, ⟨by exact blk_nw BK247.out⟩, ⟨by exact blk_nw BK250.out⟩, ⟨by exact bel0⟩⟩
            ·rw [if_neg c22] at H
             have c22b0 : decide (4 < (((rd_T43 l0_1 x20_2).f1).length : Int)) = false := decide_eq_false c22
             have c22b1 : decide (4 < ((rd_T43 l0_1 x20_2).f1).length) = false := decide_eq_false (by omega)
             clear c22; (try simp only [c22b0])
             (first | rw [c22b0] | (simp only [i64_w, i32_w]; rw [c22b0]) | skip)
             by_cases c27 : x20_2 > 0
             ·rw [if_pos c27] at H; have c27b0 : decide (0 < x20_2) = true := decide_eq_true c27; clear c27; (try simp only [c27b0])
              obtain ⟨ji28, hji28⟩ : ∃ j_ : Int, (wrap64 (x20_2 - 1)) = j_ := ⟨_, rfl⟩
              replace H : (if 0 ≤ (ji28) then (if (ji28) < (l0_1.length : Int) then ((bytes_Compare.f ((rd_T43 l0_1 (ji28)).f0) ((rd_T43 l0_1 x20_2).f0)).bind fun t257 => (impl_LocalOk.j2 k2 l0_1 (l0_1.length : Int) x20_2 (decide (t257 ≥ 0)) l0_0 l0_1 ((rd_T43 l0_1 x20_2).f0) ((rd_T43 l0_1 x20_2).f1))) else (none)) else (none)) = some r := by first | (rw [hji28] at H; exact H) | (simp only [hji28] at H ⊢; exact H)
              (try rw [hji28] at A17)
              (try rw [hji28] at A19)
              (try rw [hji28] at A20)
              have hji28w : (IntKind.i64.wrap (x20_2 - 1)) = ji28 := (i64_w _).trans hji28
              by_cases c29 : 0 ≤ (ji28)
              ·rw [if_pos c29] at H; have c29b0 : decide (0 ≤ (ji28)) = true := decide_eq_true c29; clear c29; (try simp only [c29b0])
               by_cases c30 : (ji28) < (l0_1.length : Int)
               ·rw [if_pos c30] at H
                have c30b0 : decide ((ji28) < (l0_1.length : Int)) = true := decide_eq_true c30
                clear c30; (try simp only [c30b0]); replace H := Option.bind_eq_some_iff.mp H; obtain ⟨t257, A310, H⟩ := H; have A31 := Aside0.mk A310; clear A310
                have H' := Aside0.mk H
                clear H
                try go_wp2
                have n0_ : Aside0 (((w14.setCell ⟨gb250, 0, none⟩ (.slice A249_0 ((rd_T43 l0_1 x20_2).f0).length c249_0)).setCell ⟨gb250, 1, none⟩ (.slice A249_1 ((rd_T43 l0_1 x20_2).f1).length c249_1)).heap[gb247]? = some (.cells #[.slice A0_0 l0_0.length c0_0, .slice (some ad249) l0_1.length c0_1] 30 (0, 0))) := ⟨by exact blk_kb BK247.out NB247_250.out⟩
                have n1_ : Aside0 (((w14.setCell ⟨gb250, 0, none⟩ (.slice A249_0 ((rd_T43 l0_1 x20_2).f0).length c249_0)).setCell ⟨gb250, 1, none⟩ (.slice A249_1 ((rd_T43 l0_1 x20_2).f1).length c249_1)).heap[gb250]? = some (.cells #[.slice A249_0 ((rd_T43 l0_1 x20_2).f0).length c249_0, .slice A249_1 ((rd_T43 l0_1 x20_2).f1).length c249_1] 43 (0, 0))) := ⟨by (with_reducible repeat (first | refine blk_drewN ?_ _ | refine blk_drew ?_ | refine blk_alloc ?_ _)); exact blk_fill2 BK250.out⟩
                have n2_ : Aside0 (Below w.heap.size w ((w14.setCell ⟨gb250, 0, none⟩ (.slice A249_0 ((rd_T43 l0_1 x20_2).f0).length c249_0)).setCell ⟨gb250, 1, none⟩ (.slice A249_1 ((rd_T43 l0_1 x20_2).f1).length c249_1))) := ⟨by exact bel0⟩
                (try clear BK247); (try clear BK250); (try clear HB)
                generalize ((w14.setCell ⟨gb250, 0, none⟩ (.slice A249_0 ((rd_T43 l0_1 x20_2).f0).length c249_0)).setCell ⟨gb250, 1, none⟩ (.slice A249_1 ((rd_T43 l0_1 x20_2).f1).length c249_1)) = w32 at n0_ n1_ n2_ ⊢
                have BK247 := n0_
                have BK250 := n1_
                have HB := n2_
                clear n0_ n1_ n2_
                have n_ := an (blk_drew BK247.out) (an (blk_drew BK250.out) (an (below_drew1 HB.out) (trivial)))
                clear BK247 BK250 HB
                obtain ⟨BK247, BK250, HB, -⟩ := n_
                have p256 : 0 ≤ ((ji28) : Int) := of_decide_eq_true (by first | (with_reducible assumption) | assumption)
                have q256 : (ji28) < (l0_1.length : Int) := of_decide_eq_true (by first | (with_reducible assumption) | assumption)
                obtain ⟨ad256, A256_0, c256_0, A256_1, c256_1, e256, hx256_0, hx256_1, hl256_0, hi256_0, hl256_1, hi256_1⟩ := at_T43 HR0_1.out (ji28) p256 q256
                have hw256_1 := hx256_1
                have hw256_0 := hx256_0
                obtain rfl : ad249 = ad256 := (by injection e256)
                replace hx256_0 := (HB.out.cell (World.block_lt_of_cell? w _ hx256_0)).trans hx256_0
                replace hx256_1 := (HB.out.cell (World.block_lt_of_cell? w _ hx256_1)).trans hx256_1
                have HR256_0 := Aside0.mk hi256_0; have HC256_0 := Aside0.mk hl256_0; clear hi256_0 hl256_0; have HR256_1 := Aside0.mk hi256_1; have HC256_1 := Aside0.mk hl256_1; clear hi256_1 hl256_1
                replace p256 := eq_true p256
                replace q256 := eq_true q256
                refine start_ (n := 35) (S := fun w' => w'.cell? ⟨gb250, 0, none⟩ = some (.slice A249_0 ((rd_T43 l0_1 x20_2).f0).length c249_0) ∧ w'.cell? ⟨gb250, 1, none⟩ = some (.slice A249_1 ((rd_T43 l0_1 x20_2).f1).length c249_1) ∧ w'.cell? ⟨gb247, 0, none⟩ = some (.slice A0_0 l0_0.length c0_0) ∧ w'.cell? ⟨gb247, 1, none⟩ = some (.slice (some ad249) l0_1.length c0_1) ∧ w'.cell? (ad249.add (((ji28)).toNat * 2)) = some (.slice A256_0 ((rd_T43 l0_1 (ji28)).f0).length c256_0) ∧ w'.cell? ⟨(ad249.add (((ji28)).toNat * 2)).block, (ad249.add (((ji28)).toNat * 2)).off + 1, none⟩ = some (.slice A256_1 ((rd_T43 l0_1 (ji28)).f1).length c256_1)) (ds := []) b6z0_ (by kernel_rfl) rfl rfl ⟨(blk_cell BK250.out 0).trans rfl, (blk_cell BK250.out 1).trans rfl, (blk_cell BK247.out 0).trans rfl, (blk_cell BK247.out 1).trans rfl, ((HB.out.cell (World.block_lt_of_cell? w _ hw256_0)).trans hw256_0), ((HB.out.cell (World.block_lt_of_cell? w _ hw256_1)).trans hw256_1)⟩ (fun hHeld => ?_); refine with_tabW impl_LocalOk.tab6 impl_LocalOk.bits6 (fun HT_ HW_ => ?_)
                generalize w32.drew = w33 at BK247 BK250 HB HR256_0 HR256_1 hx256_0 hx256_1 hHeld ⊢
                refine pure_ (i := 0) (N := some 25) (v := ?_) (a' := ?_) b6z1_ rfl rfl (any_of HT_.out (by kernel_rfl)) (fun _ _ _ h => h) (Or.inl ⟨by rfl, ?_⟩) ?_ ?_
                rotate_left; · intro w'; go_simp; with_reducible rfl
                rotate_left; · simp only [Act.put, List.setIfInBounds_toArray, List.set_cons_zero, List.set_cons_succ, i64_w, i32_w]; rfl
                refine take_ (i := 1) (N := some 26) (v := ?_) (a' := ?_) b6z2_ rfl rfl (take_ofW HT_.out HW_.out (by kernel_rfl)) (fun _ _ _ h => h) (Or.inl ⟨by rfl, ?_⟩) hHeld ?_ ?_
                rotate_left
                ·rintro w' ⟨s0, s1, s2, s3, s4, s5⟩
                 go_simp
                 with_reducible rfl
                rotate_left; · simp only [Act.put, List.setIfInBounds_toArray, List.set_cons_zero, List.set_cons_succ, i64_w, i32_w]; rfl
                refine one_ (i := 2) (N := some 27) b6z3_ rfl rfl (one_of HT_.out (by kernel_rfl)) (by decide) (fun K hK => ?_)
                refine goes_ Try.func22 (by kernel_rfl) rfl #[.slice A249_0 ((rd_T43 l0_1 x20_2).f0).length c249_0] (by rfl) rfl rfl (by (try simp only [List.map_toArray, List.map_cons, List.map_nil]); first | done | rfl | (simp only [List.length_drop, List.length_take]; rfl)) ?_
                with_reducible refine (impl_isPlain.calls k2 _ _ ((rd_T43 l0_1 x20_2).f0) true _ ?side1 ?side2 A17.out).mono ?_
                (case side1 => repeat (first | exact (Kd.C_below HR249_0.out HB.out) | (with_reducible refine Kd.C_alloc ?_ _) | (with_reducible refine Kd.C_drewN ?_ _) | (with_reducible refine Kd.C_drew ?_)))
                (case side2 => exact HC249_0.out)
                rintro e w' ⟨rfl, ⟨nd, rfl⟩⟩
                refine ⟨_, rfl, ?_⟩
                refine hK.out _ _ ⟨(blk_cell BK250.out 0).trans rfl, (blk_cell BK250.out 1).trans rfl, (blk_cell BK247.out 0).trans rfl, (blk_cell BK247.out 1).trans rfl, ((HB.out.cell (World.block_lt_of_cell? w _ hw256_0)).trans hw256_0), ((HB.out.cell (World.block_lt_of_cell? w _ hw256_1)).trans hw256_1)⟩ (fun hHeld => ?_)
                clear hK K
                refine norm_ (a' := ?_) ?_ ?_
                rotate_left
                ·show Act.put _ (some 27) _ = _
                 simp only [Act.put, List.setIfInBounds_toArray, List.set_cons_zero, List.set_cons_succ, i64_w, i32_w]
                 rfl
                refine pure_ (i := 3) (N := some 28) (v := ?_) (a' := ?_) b6z4_ rfl rfl (any_of HT_.out (by kernel_rfl)) (fun _ _ _ h => h) (Or.inl ⟨by rfl, ?_⟩) ?_ ?_
                rotate_left; · intro w'; go_simp; with_reducible rfl
                rotate_left; · simp only [Act.put, List.setIfInBounds_toArray, List.set_cons_zero, List.set_cons_succ, i64_w, i32_w]; rfl
                refine pure_ (i := 4) (N := some 29) (v := ?_) (a' := ?_) b6z5_ rfl rfl (any_of HT_.out (by kernel_rfl)) (fun _ _ _ h => h) (Or.inl ⟨by rfl, ?_⟩) ?_ ?_
                rotate_left; · intro w'; go_simp; with_reducible rfl
                rotate_left; · simp only [Act.put, List.setIfInBounds_toArray, List.set_cons_zero, List.set_cons_succ, i64_w, i32_w]; rfl
                refine pure_ (i := 6) (N := some 31) (v := ?_) (a' := ?_) b6z6_ rfl rfl (any_of HT_.out (by kernel_rfl)) (fun _ _ _ h => h) (Or.inl ⟨by rfl, ?_⟩) ?_ ?_
                rotate_left; · intro w'; go_simp; with_reducible rfl
                rotate_left; · simp only [Act.put, List.setIfInBounds_toArray, List.set_cons_zero, List.set_cons_succ, i64_w, i32_w]; rfl
                refine take_ (i := 5) (N := some 30) (v := ?_) (a' := ?_) b6z7_ rfl rfl (take_ofW HT_.out HW_.out (by kernel_rfl)) (fun _ _ _ h => h) (Or.inl ⟨by rfl, ?_⟩) hHeld ?_ ?_
                rotate_left
                ·rintro w' ⟨s0, s1, s2, s3, s4, s5⟩
                 go_simp
                 with_reducible rfl
                rotate_left; · simp only [Act.put, List.setIfInBounds_toArray, List.set_cons_zero, List.set_cons_succ, i64_w, i32_w]; rfl
                refine take_ (i := 7) (N := some 32) (v := ?_) (a' := ?_) b6z8_ rfl rfl (take_ofW HT_.out HW_.out (by kernel_rfl)) (fun _ _ _ h => h) (Or.inl ⟨by rfl, ?_⟩) hHeld ?_ ?_
                rotate_left
                ·rintro w' ⟨s0, s1, s2, s3, s4, s5⟩
                 go_simp
                 with_reducible rfl
                rotate_left; · simp only [Act.put, List.setIfInBounds_toArray, List.set_cons_zero, List.set_cons_succ, i64_w, i32_w]; rfl
                refine one_ (i := 8) (N := some 33) b6z9_ rfl rfl (one_of HT_.out (by kernel_rfl)) (by decide) (fun K hK => ?_)
                refine goes_ Try.func24 (by kernel_rfl) rfl #[.agg #[.slice A0_0 l0_0.length c0_0, .slice (some ad249) l0_1.length c0_1], .slice A249_0 ((rd_T43 l0_1 x20_2).f0).length c249_0] (by rfl) rfl rfl (by (try simp only [List.map_toArray, List.map_cons, List.map_nil]); first | done | rfl | (simp only [List.length_drop, List.length_take]; rfl)) ?_
                with_reducible refine (impl_Local_catalogKey.calls _ _ l0_0 _ _ l0_1 (fun k_ => k_ < w.heap.size) _ _ ((rd_T43 l0_1 x20_2).f0) t252 _ ?side1 ?side2 ?side3 ?side4 ?side5 A19.out).mono ?_
                (case side1 => repeat (first | exact (Kd.C_below HR0_0.out (by exact bel0)) | (with_reducible refine Kd.C_alloc ?_ _) | (with_reducible refine Kd.C_drewN ?_ _) | (with_reducible refine Kd.C_drew ?_)))
                (case side2 => exact HC0_0.out)
                (case side3 => repeat (first | exact (Kd.C_below HR0_1.out (by exact bel0)) | (with_reducible refine Kd.C_alloc ?_ _) | (with_reducible refine Kd.C_drewN ?_ _) | (with_reducible refine Kd.C_drew ?_)))
                (case side4 => exact HC0_1.out)
                (case side5 => exact Kd.V_mk HC249_0.out (Kd.F_below (Kd.C_F (Kd.heap_int .u8) HR249_0.out) (by exact bel0)))
                rintro e w34 ⟨v253, rfl, ho0, hb⟩
                refine ⟨_, rfl, ?_⟩
                have n_ := an (Kd.R_lower (Kd.R_mono (ok' := fun k_ => True) ho0 (fun _ hk_ => trivial)) (below_size (by exact bel0))) (an (blk_below (blk_nw BK247.out) hb) (an (blk_below (blk_nw BK250.out) hb) (an (below_step (by exact bel0) hb) (trivial))))
                clear BK247 BK250 HB
                obtain ⟨HO254, BK247, BK250, HB, -⟩ := n_
                (try clear hb); (try clear hb2); (try clear hk); (try clear hi); (try clear ho0)
                obtain ⟨Ao35, co35, eo35⟩ := Kd.R_slice HO254.out
                (first | subst eo35 | (injection eo35 with f1_ f2_ f3_; have f4_ := f1_.symm; have f5_ := f3_.symm; clear f1_ f2_ f3_; subst f4_; subst f5_))
                refine hK.out _ _ ⟨(blk_cell BK250.out 0).trans rfl, (blk_cell BK250.out 1).trans rfl, (blk_cell BK247.out 0).trans rfl, (blk_cell BK247.out 1).trans rfl, ((HB.out.cell (World.block_lt_of_cell? w _ hw256_0)).trans hw256_0), ((HB.out.cell (World.block_lt_of_cell? w _ hw256_1)).trans hw256_1)⟩ (fun hHeld => ?_)
                clear hK K
                refine norm_ (a' := ?_) ?_ ?_
                rotate_left
                ·show Act.put _ (some 33) _ = _
                 simp only [Act.put, List.setIfInBounds_toArray, List.set_cons_zero, List.set_cons_succ, i64_w, i32_w]
                 rfl
                refine one_ (i := 9) (N := some 34) b6z10_ rfl rfl (one_of HT_.out (by kernel_rfl)) (by decide) (fun K hK => ?_)
                refine goes_ Try.func23 (by kernel_rfl) rfl #[.slice Ao35 t252.length co35] (by rfl) rfl rfl (by (try simp only [List.map_toArray, List.map_cons, List.map_nil]); first | done | rfl | (simp only [List.length_drop, List.length_take]; rfl)) ?_
                with_reducible refine (impl_KeyOk.calls k2 _ _ t252 true _ ?side1 ?side2 A20.out).mono ?_
                (case side1 => repeat (first | exact (Kd.R_reads' HO254.out).2.2 | (with_reducible refine Kd.C_alloc ?_ _) | (with_reducible refine Kd.C_drewN ?_ _) | (with_reducible refine Kd.C_drew ?_)))
                (case side2 => exact (Kd.R_reads' HO254.out).2.1)
                rintro e w' ⟨rfl, ⟨nd, rfl⟩⟩
                refine ⟨_, rfl, ?_⟩
                refine hK.out _ _ ⟨(blk_cell BK250.out 0).trans rfl, (blk_cell BK250.out 1).trans rfl, (blk_cell BK247.out 0).trans rfl, (blk_cell BK247.out 1).trans rfl, ((HB.out.cell (World.block_lt_of_cell? w _ hw256_0)).trans hw256_0), ((HB.out.cell (World.block_lt_of_cell? w _ hw256_1)).trans hw256_1)⟩ (fun hHeld => ?_)
                clear hK K
                refine norm_ (a' := ?_) ?_ ?_
                rotate_left
                ·show Act.put _ (some 34) _ = _
                 simp only [Act.put, List.setIfInBounds_toArray, List.set_cons_zero, List.set_cons_succ, i64_w, i32_w]
                 rfl
                refine pure_ (i := 10) (N := some 35) (v := ?_) (a' := ?_) b6z11_ rfl rfl (any_of HT_.out (by kernel_rfl)) (fun _ _ _ h => h) (Or.inl ⟨by rfl, ?_⟩) ?_ ?_
                rotate_left; · intro w'; go_simp; with_reducible rfl
                rotate_left; · simp only [Act.put, List.setIfInBounds_toArray, List.set_cons_zero, List.set_cons_succ, i64_w, i32_w]; rfl
                refine pure_ (i := 11) (N := some 36) (v := ?_) (a' := ?_) b6z12_ rfl rfl (any_of HT_.out (by kernel_rfl)) (fun _ _ _ h => h) (Or.inl ⟨by rfl, ?_⟩) ?_ ?_
                rotate_left; · intro w'; go_simp; with_reducible rfl
                rotate_left; · simp only [Act.put, List.setIfInBounds_toArray, List.set_cons_zero, List.set_cons_succ, i64_w, i32_w]; rfl
                refine pure_ (i := 12) (N := some 37) (v := ?_) (a' := ?_) b6z13_ rfl rfl (any_of HT_.out (by kernel_rfl)) (fun _ _ _ h => h) (Or.inl ⟨by rfl, ?_⟩) ?_ ?_
                rotate_left; · intro w'; go_simp; with_reducible rfl
                rotate_left; · simp only [Act.put, List.setIfInBounds_toArray, List.set_cons_zero, List.set_cons_succ, i64_w, i32_w]; rfl
                refine pure_ (i := 13) (N := some 38) (v := ?_) (a' := ?_) b6z14_ rfl rfl (any_of HT_.out (by kernel_rfl)) (fun _ _ _ h => h) (Or.inl ⟨by rfl, ?_⟩) ?_ ?_
                rotate_left; · intro w'; go_simp; with_reducible rfl
                rotate_left; · simp only [Act.put, List.setIfInBounds_toArray, List.set_cons_zero, List.set_cons_succ, i64_w, i32_w]; rfl
                refine take_ (i := 14) (N := some 39) (v := ?_) (a' := ?_) b6z15_ rfl rfl (take_ofW HT_.out HW_.out (by kernel_rfl)) (fun _ _ _ h => h) (Or.inl ⟨by rfl, ?_⟩) hHeld ?_ ?_
                rotate_left
                ·rintro w' ⟨s0, s1, s2, s3, s4, s5⟩
                 go_simp
                 with_reducible rfl
                rotate_left; · simp only [Act.put, List.setIfInBounds_toArray, List.set_cons_zero, List.set_cons_succ, i64_w, i32_w]; rfl
                refine pure_ (i := 15) (N := some 40) (v := ?_) (a' := ?_) b6z16_ rfl rfl (any_of HT_.out (by kernel_rfl)) (fun _ _ _ h => h) (Or.inl ⟨by rfl, ?_⟩) ?_ ?_
                rotate_left; · intro w'; go_simp; with_reducible rfl
                rotate_left; · simp only [Act.put, List.setIfInBounds_toArray, List.set_cons_zero, List.set_cons_succ, i64_w, i32_w]; rfl
                refine pure_ (i := 16) (N := some 41) (v := ?_) (a' := ?_) b6z17_ rfl rfl (any_of HT_.out (by kernel_rfl)) (fun _ _ _ h => h) (Or.inl ⟨by rfl, ?_⟩) ?_ ?_
                rotate_left; · intro w'; go_simp; with_reducible rfl
                rotate_left; · simp only [Act.put, List.setIfInBounds_toArray, List.set_cons_zero, List.set_cons_succ, i64_w, i32_w]; rfl
                refine pure_ (i := 17) (N := some 42) (v := ?_) (a' := ?_) b6z18_ rfl rfl (any_of HT_.out (by kernel_rfl)) (fun _ _ _ h => h) (Or.inl ⟨by rfl, ?_⟩) ?_ ?_
                rotate_left; · intro w'; go_simp; with_reducible rfl
                rotate_left; · simp only [Act.put, List.setIfInBounds_toArray, List.set_cons_zero, List.set_cons_succ, i64_w, i32_w]; rfl
                refine pure_ (i := 18) (N := some 43) (v := ?_) (a' := ?_) b6z19_ rfl rfl (any_of HT_.out (by kernel_rfl)) (fun _ _ _ h => h) (Or.inl ⟨by rfl, ?_⟩) ?_ ?_
                rotate_left; · intro w'; go_simp; with_reducible rfl
                rotate_left; · simp only [Act.put, List.setIfInBounds_toArray, List.set_cons_zero, List.set_cons_succ, i64_w, i32_w]; rfl
                refine pure_ (i := 19) (N := some 44) (v := ?_) (a' := ?_) b6z20_ rfl rfl (any_of HT_.out (by kernel_rfl)) (fun _ _ _ h => h) (Or.inl ⟨by rfl, ?_⟩) ?_ ?_
                rotate_left; · intro w'; go_simp; with_reducible rfl
                rotate_left; · simp only [Act.put, List.setIfInBounds_toArray, List.set_cons_zero, List.set_cons_succ, i64_w, i32_w]; rfl
                refine pure_ (i := 20) (N := some 45) (v := ?_) (a' := ?_) b6z21_ rfl rfl (any_of HT_.out (by kernel_rfl)) (fun _ _ _ h => h) (Or.inl ⟨by rfl, ?_⟩) ?_ ?_
                rotate_left; · intro w'; go_simp; with_reducible rfl
                rotate_left; · simp only [Act.put, List.setIfInBounds_toArray, List.set_cons_zero, List.set_cons_succ, i64_w, i32_w]; rfl
                refine pure_ (i := 21) (N := some 46) (v := ?_) (a' := ?_) b6z22_ rfl rfl (any_of HT_.out (by kernel_rfl)) (fun _ _ _ h => h) (Or.inl ⟨by rfl, ?_⟩) ?_ ?_
                rotate_left; · intro w'; go_simp; with_reducible rfl
                rotate_left; · simp only [Act.put, List.setIfInBounds_toArray, List.set_cons_zero, List.set_cons_succ, i64_w, i32_w]; rfl
                refine pure_ (i := 22) (N := some 47) (v := ?_) (a' := ?_) b6z23_ rfl rfl (any_of HT_.out (by kernel_rfl)) (fun _ _ _ h => h) (Or.inl ⟨by rfl, ?_⟩) ?_ ?_
                rotate_left; · intro w'; go_simp; with_reducible rfl
                rotate_left; · simp only [Act.put, List.setIfInBounds_toArray, List.set_cons_zero, List.set_cons_succ, i64_w, i32_w]; rfl
                refine pure_ (i := 24) (N := some 49) (v := ?_) (a' := ?_) b6z36_ rfl rfl (any_of HT_.out (by kernel_rfl)) (fun _ _ _ h => h) (Or.inl ⟨by rfl, ?_⟩) ?_ ?_
                rotate_left; · intro w'; go_simp; with_reducible rfl
                rotate_left; · simp only [Act.put, List.setIfInBounds_toArray, List.set_cons_zero, List.set_cons_succ, i64_w, i32_w]; rfl
                refine pure_ (i := 25) (N := some 50) (v := ?_) (a' := ?_) b6z37_ rfl rfl (any_of HT_.out (by kernel_rfl)) (fun _ _ _ h => h) (Or.inl ⟨by rfl, ?_⟩) ?_ ?_
                rotate_left; · intro w'; go_simp; with_reducible rfl
                rotate_left; · simp only [Act.put, List.setIfInBounds_toArray, List.set_cons_zero, List.set_cons_succ, i64_w, i32_w]; rfl
                refine pure_ (i := 29) (N := some 54) (v := ?_) (a' := ?_) b6z38_ rfl rfl (any_of HT_.out (by kernel_rfl)) (fun _ _ _ h => h) (Or.inl ⟨by rfl, ?_⟩) ?_ ?_
                rotate_left; · intro w'; go_simp; with_reducible rfl
                rotate_left; · simp only [Act.put, List.setIfInBounds_toArray, List.set_cons_zero, List.set_cons_succ, i64_w, i32_w]; rfl
                refine take_ (i := 23) (N := some 48) (v := ?_) (a' := ?_) b6z39_ rfl rfl (take_ofW HT_.out HW_.out (by kernel_rfl)) (fun _ _ _ h => h) (Or.inl ⟨by rfl, ?_⟩) hHeld ?_ ?_
                rotate_left
                ·rintro w' ⟨s0, s1, s2, s3, s4, s5⟩
                 go_simp
                 with_reducible rfl
                rotate_left; · simp only [Act.put, List.setIfInBounds_toArray, List.set_cons_zero, List.set_cons_succ, i64_w, i32_w]; rfl
                refine pure_ (i := 26) (N := some 51) (v := ?_) (a' := ?_) b6z40_ rfl rfl (any_of HT_.out (by kernel_rfl)) (fun _ _ _ h => h) (Or.inl ⟨by rfl, ?_⟩) ?_ ?_
                rotate_left; · intro w'; go_simp; with_reducible rfl
                rotate_left; · simp only [Act.put, List.setIfInBounds_toArray, List.set_cons_zero, List.set_cons_succ, i64_w, i32_w]; rfl
                refine pure_ (i := 27) (N := some 52) (v := ?_) (a' := ?_) b6z41_ rfl rfl (any_of HT_.out (by kernel_rfl)) (fun _ _ _ h => h) (Or.inl ⟨by rfl, ?_⟩) ?_ ?_
                rotate_left; · intro w'; go_simp; with_reducible rfl
                rotate_left; · simp only [Act.put, List.setIfInBounds_toArray, List.set_cons_zero, List.set_cons_succ, i64_w, i32_w]; rfl
                refine take_ (i := 28) (N := some 53) (v := ?_) (a' := ?_) b6z30_ rfl rfl (take_ofW HT_.out HW_.out (by kernel_rfl)) (fun _ _ _ h => h) (Or.inl ⟨by rfl, ?_⟩) hHeld ?_ ?_
                rotate_left
                ·rintro w' ⟨s0, s1, s2, s3, s4, s5⟩
                 go_simp
                 with_reducible rfl
                rotate_left; · simp only [Act.put, List.setIfInBounds_toArray, List.set_cons_zero, List.set_cons_succ, i64_w, i32_w]; rfl
                refine take_ (i := 30) (N := some 55) (v := ?_) (a' := ?_) b6z31_ rfl rfl (take_ofW HT_.out HW_.out (by kernel_rfl)) (fun _ _ _ h => h) (Or.inl ⟨by rfl, ?_⟩) hHeld ?_ ?_
                rotate_left
                ·rintro w' ⟨s0, s1, s2, s3, s4, s5⟩
                 go_simp
                 with_reducible rfl
                rotate_left; · simp only [Act.put, List.setIfInBounds_toArray, List.set_cons_zero, List.set_cons_succ, i64_w, i32_w]; rfl
                refine one_ (i := 31) (N := some 56) b6z32_ rfl rfl (one_of HT_.out (by kernel_rfl)) (by decide) (fun K hK => ?_)
                refine goes_ Try.func25 (by kernel_rfl) rfl #[.slice A256_0 ((rd_T43 l0_1 (ji28)).f0).length c256_0, .slice A249_0 ((rd_T43 l0_1 x20_2).f0).length c249_0] (by rfl) rfl rfl (by (try simp only [List.map_toArray, List.map_cons, List.map_nil]); first | done | (simp only [hji28]; rfl) | rfl | (simp only [List.length_drop, List.length_take]; rfl)) ?_
                with_reducible refine (bytes_Compare.calls _ _ ((rd_T43 l0_1 (ji28)).f0) _ _ ((rd_T43 l0_1 x20_2).f0) t257 _ ?side1 ?side2 ?side3 ?side4 A31.out).mono ?_
                (case side1 => repeat (first | exact (Kd.C_below HR256_0.out (by exact bel0)) | (with_reducible refine Kd.C_alloc ?_ _) | (with_reducible refine Kd.C_drewN ?_ _) | (with_reducible refine Kd.C_drew ?_)))
                (case side2 => exact HC256_0.out)
                (case side3 => repeat (first | exact (Kd.C_below HR249_0.out (by exact bel0)) | (with_reducible refine Kd.C_alloc ?_ _) | (with_reducible refine Kd.C_drewN ?_ _) | (with_reducible refine Kd.C_drew ?_)))
                (case side4 => exact HC249_0.out)
                rintro e w' ⟨rfl, ⟨nd, rfl⟩⟩
                refine ⟨_, rfl, ?_⟩
                refine hK.out _ _ ⟨(blk_cell BK250.out 0).trans rfl, (blk_cell BK250.out 1).trans rfl, (blk_cell BK247.out 0).trans rfl, (blk_cell BK247.out 1).trans rfl, ((HB.out.cell (World.block_lt_of_cell? w _ hw256_0)).trans hw256_0), ((HB.out.cell (World.block_lt_of_cell? w _ hw256_1)).trans hw256_1)⟩ (fun hHeld => ?_)
                clear hK K
                refine norm_ (a' := ?_) ?_ ?_
                rotate_left
                ·show Act.put _ (some 56) _ = _
                 simp only [Act.put, List.setIfInBounds_toArray, List.set_cons_zero, List.set_cons_succ, i64_w, i32_w]
                 rfl
                refine pure_ (i := 32) (N := some 57) (v := ?_) (a' := ?_) b6z33_ rfl rfl (any_of HT_.out (by kernel_rfl)) (fun _ _ _ h => h) (Or.inl ⟨by rfl, ?_⟩) ?_ ?_
                rotate_left; · intro w'; go_simp; with_reducible rfl
                rotate_left; · simp only [Act.put, List.setIfInBounds_toArray, List.set_cons_zero, List.set_cons_succ, i64_w, i32_w]; rfl
                refine pure_ (i := 33) (N := some 58) (v := ?_) (a' := ?_) b6z34_ rfl rfl (any_of HT_.out (by kernel_rfl)) (fun _ _ _ h => h) (Or.inl ⟨by rfl, ?_⟩) ?_ ?_
                rotate_left; · intro w'; go_simp; with_reducible rfl
                rotate_left; · simp only [Act.put, List.setIfInBounds_toArray, List.set_cons_zero, List.set_cons_succ, i64_w, i32_w]; rfl
                refine pure_ (i := 34) (N := some 59) (v := ?_) (a' := ?_) b6z35_ rfl rfl (any_of HT_.out (by kernel_rfl)) (fun _ _ _ h => h) (Or.inl ⟨by rfl, ?_⟩) ?_ ?_
                rotate_left; · intro w'; go_simp; with_reducible rfl
                rotate_left; · simp only [Act.put, List.setIfInBounds_toArray, List.set_cons_zero, List.set_cons_succ, i64_w, i32_w]; rfl
                refine done_ (done_of HT_.out (by kernel_rfl)) ?_
                try go_wp2
                go_meet
                case rel => exact ⟨_, (decide (t257 ≥ 0)), (by first | rfl | (simp; done) | (simp [*]; done)), H', ⟨by have := HJ1.out; have := HK2.out; first | omega | exact Nat.le_refl _⟩, ⟨by exact blk_nw BK247.out⟩, ⟨by exact blk_nw BK250.out⟩, ⟨by exact bel0⟩⟩
               ·rw [if_neg c30] at H
                exact absurd H (by simp)
              ·rw [if_neg c29] at H
               exact absurd H (by simp)
             ·rw [if_neg c27] at H; have c27b0 : decide (0 < x20_2) = false := decide_eq_false c27; clear c27; (try simp only [c27b0])
              have H' := Aside0.mk H
              clear H
              try go_wp2
              have n0_ : Aside0 (((w14.setCell ⟨gb250, 0, none⟩ (.slice A249_0 ((rd_T43 l0_1 x20_2).f0).length c249_0)).setCell ⟨gb250, 1, none⟩ (.slice A249_1 ((rd_T43 l0_1 x20_2).f1).length c249_1)).heap[gb247]? = some (.cells #[.slice A0_0 l0_0.length c0_0, .slice (some ad249) l0_1.length c0_1] 30 (0, 0))) := ⟨by exact blk_kb BK247.out NB247_250.out⟩
              have n1_ : Aside0 (((w14.setCell ⟨gb250, 0, none⟩ (.slice A249_0 ((rd_T43 l0_1 x20_2).f0).length c249_0)).setCell ⟨gb250, 1, none⟩ (.slice A249_1 ((rd_T43 l0_1 x20_2).f1).length c249_1)).heap[gb250]? = some (.cells #[.slice A249_0 ((rd_T43 l0_1 x20_2).f0).length c249_0, .slice A249_1 ((rd_T43 l0_1 x20_2).f1).length c249_1] 43 (0, 0))) := ⟨by (with_reducible repeat (first | refine blk_drewN ?_ _ | refine blk_drew ?_ | refine blk_alloc ?_ _)); exact blk_fill2 BK250.out⟩
              have n2_ : Aside0 (Below w.heap.size w ((w14.setCell ⟨gb250, 0, none⟩ (.slice A249_0 ((rd_T43 l0_1 x20_2).f0).length c249_0)).setCell ⟨gb250, 1, none⟩ (.slice A249_1 ((rd_T43 l0_1 x20_2).f1).length c249_1))) := ⟨by exact bel0⟩
              (try clear BK247); (try clear BK250); (try clear HB)
              generalize ((w14.setCell ⟨gb250, 0, none⟩ (.slice A249_0 ((rd_T43 l0_1 x20_2).f0).length c249_0)).setCell ⟨gb250, 1, none⟩ (.slice A249_1 ((rd_T43 l0_1 x20_2).f1).length c249_1)) = w36 at n0_ n1_ n2_ ⊢
              have BK247 := n0_
              have BK250 := n1_
              have HB := n2_
              clear n0_ n1_ n2_
              have n_ := an (blk_drew BK247.out) (an (blk_drew BK250.out) (an (below_drew1 HB.out) (trivial)))
              clear BK247 BK250 HB
              obtain ⟨BK247, BK250, HB, -⟩ := n_
              refine start_ (n := 35) (S := fun w' => w'.cell? ⟨gb250, 0, none⟩ = some (.slice A249_0 ((rd_T43 l0_1 x20_2).f0).length c249_0) ∧ w'.cell? ⟨gb250, 1, none⟩ = some (.slice A249_1 ((rd_T43 l0_1 x20_2).f1).length c249_1) ∧ w'.cell? ⟨gb247, 0, none⟩ = some (.slice A0_0 l0_0.length c0_0) ∧ w'.cell? ⟨gb247, 1, none⟩ = some (.slice (some ad249) l0_1.length c0_1)) (ds := []) b6z0_ (by kernel_rfl) rfl rfl ⟨(blk_cell BK250.out 0).trans rfl, (blk_cell BK250.out 1).trans rfl, (blk_cell BK247.out 0).trans rfl, (blk_cell BK247.out 1).trans rfl⟩ (fun hHeld => ?_); refine with_tabW impl_LocalOk.tab6 impl_LocalOk.bits6 (fun HT_ HW_ => ?_)
              generalize w36.drew = w37 at BK247 BK250 HB hHeld ⊢
              refine pure_ (i := 0) (N := some 25) (v := ?_) (a' := ?_) b6z1_ rfl rfl (any_of HT_.out (by kernel_rfl)) (fun _ _ _ h => h) (Or.inl ⟨by rfl, ?_⟩) ?_ ?_
              rotate_left; · intro w'; go_simp; with_reducible rfl
              rotate_left; · simp only [Act.put, List.setIfInBounds_toArray, List.set_cons_zero, List.set_cons_succ, i64_w, i32_w]; rfl
              refine take_ (i := 1) (N := some 26) (v := ?_) (a' := ?_) b6z2_ rfl rfl (take_ofW HT_.out HW_.out (by kernel_rfl)) (fun _ _ _ h => h) (Or.inl ⟨by rfl, ?_⟩) hHeld ?_ ?_
              rotate_left
              ·rintro w' ⟨s0, s1, s2, s3⟩
               go_simp
               with_reducible rfl
              rotate_left; · simp only [Act.put, List.setIfInBounds_toArray, List.set_cons_zero, List.set_cons_succ, i64_w, i32_w]; rfl
              refine one_ (i := 2) (N := some 27) b6z3_ rfl rfl (one_of HT_.out (by kernel_rfl)) (by decide) (fun K hK => ?_)
              refine goes_ Try.func22 (by kernel_rfl) rfl #[.slice A249_0 ((rd_T43 l0_1 x20_2).f0).length c249_0] (by rfl) rfl rfl (by (try simp only [List.map_toArray, List.map_cons, List.map_nil]); first | done | rfl | (simp only [List.length_drop, List.length_take]; rfl)) ?_
              with_reducible refine (impl_isPlain.calls k2 _ _ ((rd_T43 l0_1 x20_2).f0) true _ ?side1 ?side2 A17.out).mono ?_
              (case side1 => repeat (first | exact (Kd.C_below HR249_0.out HB.out) | (with_reducible refine Kd.C_alloc ?_ _) | (with_reducible refine Kd.C_drewN ?_ _) | (with_reducible refine Kd.C_drew ?_)))
              (case side2 => exact HC249_0.out)
              rintro e w' ⟨rfl, ⟨nd, rfl⟩⟩
              refine ⟨_, rfl, ?_⟩
              refine hK.out _ _ ⟨(blk_cell BK250.out 0).trans rfl, (blk_cell BK250.out 1).trans rfl, (blk_cell BK247.out 0).trans rfl, (blk_cell BK247.out 1).trans rfl⟩ (fun hHeld => ?_)
              clear hK K
              refine norm_ (a' := ?_) ?_ ?_
              rotate_left
              ·show Act.put _ (some 27) _ = _
               simp only [Act.put, List.setIfInBounds_toArray, List.set_cons_zero, List.set_cons_succ, i64_w, i32_w]
               rfl
              refine pure_ (i := 3) (N := some 28) (v := ?_) (a' := ?_) b6z4_ rfl rfl (any_of HT_.out (by kernel_rfl)) (fun _ _ _ h => h) (Or.inl ⟨by rfl, ?_⟩) ?_ ?_
              rotate_left; · intro w'; go_simp; with_reducible rfl
              rotate_left; · simp only [Act.put, List.setIfInBounds_toArray, List.set_cons_zero, List.set_cons_succ, i64_w, i32_w]; rfl
              refine pure_ (i := 4) (N := some 29) (v := ?_) (a' := ?_) b6z5_ rfl rfl (any_of HT_.out (by kernel_rfl)) (fun _ _ _ h => h) (Or.inl ⟨by rfl, ?_⟩) ?_ ?_
              rotate_left; · intro w'; go_simp; with_reducible rfl
              rotate_left; · simp only [Act.put, List.setIfInBounds_toArray, List.set_cons_zero, List.set_cons_succ, i64_w, i32_w]; rfl
              refine pure_ (i := 6) (N := some 31) (v := ?_) (a' := ?_) b6z6_ rfl rfl (any_of HT_.out (by kernel_rfl)) (fun _ _ _ h => h) (Or.inl ⟨by rfl, ?_⟩) ?_ ?_
              rotate_left; · intro w'; go_simp; with_reducible rfl
              rotate_left; · simp only [Act.put, List.setIfInBounds_toArray, List.set_cons_zero, List.set_cons_succ, i64_w, i32_w]; rfl
              refine take_ (i := 5) (N := some 30) (v := ?_) (a' := ?_) b6z7_ rfl rfl (take_ofW HT_.out HW_.out (by kernel_rfl)) (fun _ _ _ h => h) (Or.inl ⟨by rfl, ?_⟩) hHeld ?_ ?_
              rotate_left
              ·rintro w' ⟨s0, s1, s2, s3⟩
               go_simp
               with_reducible rfl
              rotate_left; · simp only [Act.put, List.setIfInBounds_toArray, List.set_cons_zero, List.set_cons_succ, i64_w, i32_w]; rfl
              refine take_ (i := 7) (N := some 32) (v := ?_) (a' := ?_) b6z8_ rfl rfl (take_ofW HT_.out HW_.out (by kernel_rfl)) (fun _ _ _ h => h) (Or.inl ⟨by rfl, ?_⟩) hHeld ?_ ?_
              rotate_left
              ·rintro w' ⟨s0, s1, s2, s3⟩
               go_simp
               with_reducible rfl
              rotate_left; · simp only [Act.put, List.setIfInBounds_toArray, List.set_cons_zero, List.set_cons_succ, i64_w, i32_w]; rfl
              refine one_ (i := 8) (N := some 33) b6z9_ rfl rfl (one_of HT_.out (by kernel_rfl)) (by decide) (fun K hK => ?_)
              refine goes_ Try.func24 (by kernel_rfl) rfl #[.agg #[.slice A0_0 l0_0.length c0_0, .slice (some ad249) l0_1.length c0_1], .slice A249_0 ((rd_T43 l0_1 x20_2).f0).length c249_0] (by rfl) rfl rfl (by (try simp only [List.map_toArray, List.map_cons, List.map_nil]); first | done | rfl | (simp only [List.length_drop, List.length_take]; rfl)) ?_
              with_reducible refine (impl_Local_catalogKey.calls _ _ l0_0 _ _ l0_1 (fun k_ => k_ < w.heap.size) _ _ ((rd_T43 l0_1 x20_2).f0) t252 _ ?side1 ?side2 ?side3 ?side4 ?side5 A19.out).mono ?_
              (case side1 => repeat (first | exact (Kd.C_below HR0_0.out (by exact bel0)) | (with_reducible refine Kd.C_alloc ?_ _) | (with_reducible refine Kd.C_drewN ?_ _) | (with_reducible refine Kd.C_drew ?_)))
              (case side2 => exact HC0_0.out)
              (case side3 => repeat (first | exact (Kd.C_below HR0_1.out (by exact bel0)) | (with_reducible refine Kd.C_alloc ?_ _) | (with_reducible refine Kd.C_drewN ?_ _) | (with_reducible refine Kd.C_drew ?_)))
              (case side4 => exact HC0_1.out)
              (case side5 => exact Kd.V_mk HC249_0.out (Kd.F_below (Kd.C_F (Kd.heap_int .u8) HR249_0.out) (by exact bel0)))
              rintro e w38 ⟨v253, rfl, ho0, hb⟩
              refine ⟨_, rfl, ?_⟩
              have n_ := an (Kd.R_lower (Kd.R_mono (ok' := fun k_ => True) ho0 (fun _ hk_ => trivial)) (below_size (by exact bel0))) (an (blk_below (blk_nw BK247.out) hb) (an (blk_below (blk_nw BK250.out) hb) (an (below_step (by exact bel0) hb) (trivial))))
              clear BK247 BK250 HB
              obtain ⟨HO254, BK247, BK250, HB, -⟩ := n_
              (try clear hb); (try clear hb2); (try clear hk); (try clear hi); (try clear ho0)
              obtain ⟨Ao39, co39, eo39⟩ := Kd.R_slice HO254.out
              (first | subst eo39 | (injection eo39 with f1_ f2_ f3_; have f4_ := f1_.symm; have f5_ := f3_.symm; clear f1_ f2_ f3_; subst f4_; subst f5_))
              refine hK.out _ _ ⟨(blk_cell BK250.out 0).trans rfl, (blk_cell BK250.out 1).trans rfl, (blk_cell BK247.out 0).trans rfl, (blk_cell BK247.out 1).trans rfl⟩ (fun hHeld => ?_)
              clear hK K
              refine norm_ (a' := ?_) ?_ ?_
              rotate_left
              ·show Act.put _ (some 33) _ = _
               simp only [Act.put, List.setIfInBounds_toArray, List.set_cons_zero, List.set_cons_succ, i64_w, i32_w]
               rfl
              refine one_ (i := 9) (N := some 34) b6z10_ rfl rfl (one_of HT_.out (by kernel_rfl)) (by decide) (fun K hK => ?_)
              refine goes_ Try.func23 (by kernel_rfl) rfl #[.slice Ao39 t252.length co39] (by rfl) rfl rfl (by (try simp only [List.map_toArray, List.map_cons, List.map_nil]); first | done | rfl | (simp only [List.length_drop, List.length_take]; rfl)) ?_
              with_reducible refine (impl_KeyOk.calls k2 _ _ t252 true _ ?side1 ?side2 A20.out).mono ?_
              (case side1 => repeat (first | exact (Kd.R_reads' HO254.out).2.2 | (with_reducible refine Kd.C_alloc ?_ _) | (with_reducible refine Kd.C_drewN ?_ _) | (with_reducible refine Kd.C_drew ?_)))
              (case side2 => exact (Kd.R_reads' HO254.out).2.1)
              rintro e w' ⟨rfl, ⟨nd, rfl⟩⟩
              refine ⟨_, rfl, ?_⟩
              refine hK.out _ _ ⟨(blk_cell BK250.out 0).trans rfl, (blk_cell BK250.out 1).trans rfl, (blk_cell BK247.out 0).trans rfl, (blk_cell BK247.out 1).trans rfl⟩ (fun hHeld => ?_)
              clear hK K
              refine norm_ (a' := ?_) ?_ ?_
              rotate_left
              ·show Act.put _ (some 34) _ = _
               simp only [Act.put, List.setIfInBounds_toArray, List.set_cons_zero, List.set_cons_succ, i64_w, i32_w]
               rfl
              refine pure_ (i := 10) (N := some 35) (v := ?_) (a' := ?_) b6z11_ rfl rfl (any_of HT_.out (by kernel_rfl)) (fun _ _ _ h => h) (Or.inl ⟨by rfl, ?_⟩) ?_ ?_
              rotate_left; · intro w'; go_simp; with_reducible rfl
              rotate_left; · simp only [Act.put, List.setIfInBounds_toArray, List.set_cons_zero, List.set_cons_succ, i64_w, i32_w]; rfl
              refine pure_ (i := 11) (N := some 36) (v := ?_) (a' := ?_) b6z12_ rfl rfl (any_of HT_.out (by kernel_rfl)) (fun _ _ _ h => h) (Or.inl ⟨by rfl, ?_⟩) ?_ ?_
              rotate_left; · intro w'; go_simp; with_reducible rfl
              rotate_left; · simp only [Act.put, List.setIfInBounds_toArray, List.set_cons_zero, List.set_cons_succ, i64_w, i32_w]; rfl
              refine pure_ (i := 12) (N := some 37) (v := ?_) (a' := ?_) b6z13_ rfl rfl (any_of HT_.out (by kernel_rfl)) (fun _ _ _ h => h) (Or.inl ⟨by rfl, ?_⟩) ?_ ?_
              rotate_left; · intro w'; go_simp; with_reducible rfl
              rotate_left; · simp only [Act.put, List.setIfInBounds_toArray, List.set_cons_zero, List.set_cons_succ, i64_w, i32_w]; rfl
              refine pure_ (i := 13) (N := some 38) (v := ?_) (a' := ?_) b6z14_ rfl rfl (any_of HT_.out (by kernel_rfl)) (fun _ _ _ h => h) (Or.inl ⟨by rfl, ?_⟩) ?_ ?_
              rotate_left; · intro w'; go_simp; with_reducible rfl
              rotate_left; · simp only [Act.put, List.setIfInBounds_toArray, List.set_cons_zero, List.set_cons_succ, i64_w, i32_w]; rfl
              refine take_ (i := 14) (N := some 39) (v := ?_) (a' := ?_) b6z15_ rfl rfl (take_ofW HT_.out HW_.out (by kernel_rfl)) (fun _ _ _ h => h) (Or.inl ⟨by rfl, ?_⟩) hHeld ?_ ?_
              rotate_left
              ·rintro w' ⟨s0, s1, s2, s3⟩
               go_simp
               with_reducible rfl
              rotate_left; · simp only [Act.put, List.setIfInBounds_toArray, List.set_cons_zero, List.set_cons_succ, i64_w, i32_w]; rfl
              refine pure_ (i := 15) (N := some 40) (v := ?_) (a' := ?_) b6z16_ rfl rfl (any_of HT_.out (by kernel_rfl)) (fun _ _ _ h => h) (Or.inl ⟨by rfl, ?_⟩) ?_ ?_
              rotate_left; · intro w'; go_simp; with_reducible rfl
              rotate_left; · simp only [Act.put, List.setIfInBounds_toArray, List.set_cons_zero, List.set_cons_succ, i64_w, i32_w]; rfl
              refine pure_ (i := 16) (N := some 41) (v := ?_) (a' := ?_) b6z17_ rfl rfl (any_of HT_.out (by kernel_rfl)) (fun _ _ _ h => h) (Or.inl ⟨by rfl, ?_⟩) ?_ ?_
              rotate_left; · intro w'; go_simp; with_reducible rfl
              rotate_left; · simp only [Act.put, List.setIfInBounds_toArray, List.set_cons_zero, List.set_cons_succ, i64_w, i32_w]; rfl
              refine pure_ (i := 17) (N := some 42) (v := ?_) (a' := ?_) b6z18_ rfl rfl (any_of HT_.out (by kernel_rfl)) (fun _ _ _ h => h) (Or.inl ⟨by rfl, ?_⟩) ?_ ?_
              rotate_left; · intro w'; go_simp; with_reducible rfl
              rotate_left; · simp only [Act.put, List.setIfInBounds_toArray, List.set_cons_zero, List.set_cons_succ, i64_w, i32_w]; rfl
              refine pure_ (i := 18) (N := some 43) (v := ?_) (a' := ?_) b6z19_ rfl rfl (any_of HT_.out (by kernel_rfl)) (fun _ _ _ h => h) (Or.inl ⟨by rfl, ?_⟩) ?_ ?_
              rotate_left; · intro w'; go_simp; with_reducible rfl
              rotate_left; · simp only [Act.put, List.setIfInBounds_toArray, List.set_cons_zero, List.set_cons_succ, i64_w, i32_w]; rfl
              refine pure_ (i := 19) (N := some 44) (v := ?_) (a' := ?_) b6z20_ rfl rfl (any_of HT_.out (by kernel_rfl)) (fun _ _ _ h => h) (Or.inl ⟨by rfl, ?_⟩) ?_ ?_
              rotate_left; · intro w'; go_simp; with_reducible rfl
              rotate_left; · simp only [Act.put, List.setIfInBounds_toArray, List.set_cons_zero, List.set_cons_succ, i64_w, i32_w]; rfl
              refine pure_ (i := 20) (N := some 45) (v := ?_) (a' := ?_) b6z21_ rfl rfl (any_of HT_.out (by kernel_rfl)) (fun _ _ _ h => h) (Or.inl ⟨by rfl, ?_⟩) ?_ ?_
              rotate_left; · intro w'; go_simp; with_reducible rfl
              rotate_left; · simp only [Act.put, List.setIfInBounds_toArray, List.set_cons_zero, List.set_cons_succ, i64_w, i32_w]; rfl
              refine pure_ (i := 21) (N := some 46) (v := ?_) (a' := ?_) b6z22_ rfl rfl (any_of HT_.out (by kernel_rfl)) (fun _ _ _ h => h) (Or.inl ⟨by rfl, ?_⟩) ?_ ?_
              rotate_left; · intro w'; go_simp; with_reducible rfl
              rotate_left; · simp only [Act.put, List.setIfInBounds_toArray, List.set_cons_zero, List.set_cons_succ, i64_w, i32_w]; rfl
              refine pure_ (i := 22) (N := some 47) (v := undef) (a' := ?_) b6z23_ rfl rfl (any_of HT_.out (by kernel_rfl)) (fun _ _ _ h => h) (Or.inr ⟨by rfl, rfl⟩) ?_ ?_
              rotate_left; · simp only [Act.put, List.setIfInBounds_toArray, List.set_cons_zero, List.set_cons_succ, i64_w, i32_w]; rfl
              refine pure_ (i := 23) (N := some 48) (v := undef) (a' := ?_) b6z24_ rfl rfl (any_of HT_.out (by kernel_rfl)) (fun _ _ _ h => h) (Or.inr ⟨by rfl, rfl⟩) ?_ ?_
              rotate_left; · simp only [Act.put, List.setIfInBounds_toArray, List.set_cons_zero, List.set_cons_succ, i64_w, i32_w]; rfl
              refine pure_ (i := 24) (N := some 49) (v := undef) (a' := ?_) b6z25_ rfl rfl (any_of HT_.out (by kernel_rfl)) (fun _ _ _ h => h) (Or.inr ⟨by rfl, rfl⟩) ?_ ?_
              rotate_left; · simp only [Act.put, List.setIfInBounds_toArray, List.set_cons_zero, List.set_cons_succ, i64_w, i32_w]; rfl
              refine pure_ (i := 25) (N := some 50) (v := undef) (a' := ?_) b6z26_ rfl rfl (any_of HT_.out (by kernel_rfl)) (fun _ _ _ h => h) (Or.inr ⟨by rfl, rfl⟩) ?_ ?_
              rotate_left; · simp only [Act.put, List.setIfInBounds_toArray, List.set_cons_zero, List.set_cons_succ, i64_w, i32_w]; rfl
              refine pure_ (i := 26) (N := some 51) (v := undef) (a' := ?_) b6z27_ rfl rfl (any_of HT_.out (by kernel_rfl)) (fun _ _ _ h => h) (Or.inr ⟨by rfl, rfl⟩) ?_ ?_
              rotate_left; · simp only [Act.put, List.setIfInBounds_toArray, List.set_cons_zero, List.set_cons_succ, i64_w, i32_w]; rfl
              refine pure_ (i := 27) (N := some 52) (v := undef) (a' := ?_) b6z28_ rfl rfl (any_of HT_.out (by kernel_rfl)) (fun _ _ _ h => h) (Or.inr ⟨by rfl, rfl⟩) ?_ ?_
              rotate_left; · simp only [Act.put, List.setIfInBounds_toArray, List.set_cons_zero, List.set_cons_succ, i64_w, i32_w]; rfl
              refine pure_ (i := 28) (N := some 53) (v := undef) (a' := ?_) b6z29_ rfl rfl (any_of HT_.out (by kernel_rfl)) (fun _ _ _ h => h) (Or.inr ⟨by rfl, rfl⟩) ?_ ?_
              rotate_left; · simp only [Act.put, List.setIfInBounds_toArray, List.set_cons_zero, List.set_cons_succ, i64_w, i32_w]; rfl
              refine pure_ (i := 29) (N := some 54) (v := undef) (a' := ?_) b6z30_ rfl rfl (any_of HT_.out (by kernel_rfl)) (fun _ _ _ h => h) (Or.inr ⟨by rfl, rfl⟩) ?_ ?_
              rotate_left; · simp only [Act.put, List.setIfInBounds_toArray, List.set_cons_zero, List.set_cons_succ, i64_w, i32_w]; rfl
              refine pure_ (i := 30) (N := some 55) (v := undef) (a' := ?_) b6z31_ rfl rfl (any_of HT_.out (by kernel_rfl)) (fun _ _ _ h => h) (Or.inr ⟨by rfl, rfl⟩) ?_ ?_
              rotate_left; · simp only [Act.put, List.setIfInBounds_toArray, List.set_cons_zero, List.set_cons_succ, i64_w, i32_w]; rfl
              refine pure_ (i := 31) (N := some 56) (v := undef) (a' := ?_) b6z32_ rfl rfl (any_of HT_.out (by kernel_rfl)) (fun _ _ _ h => h) (Or.inr ⟨by rfl, rfl⟩) ?_ ?_
              rotate_left; · simp only [Act.put, List.setIfInBounds_toArray, List.set_cons_zero, List.set_cons_succ, i64_w, i32_w]; rfl
              refine pure_ (i := 32) (N := some 57) (v := undef) (a' := ?_) b6z33_ rfl rfl (any_of HT_.out (by kernel_rfl)) (fun _ _ _ h => h) (Or.inr ⟨by rfl, rfl⟩) ?_ ?_
              rotate_left; · simp only [Act.put, List.setIfInBounds_toArray, List.set_cons_zero, List.set_cons_succ, i64_w, i32_w]; rfl
              refine pure_ (i := 33) (N := some 58) (v := ?_) (a' := ?_) b6z34_ rfl rfl (any_of HT_.out (by kernel_rfl)) (fun _ _ _ h => h) (Or.inl ⟨by rfl, ?_⟩) ?_ ?_
              rotate_left; · intro w'; go_simp; with_reducible rfl
              rotate_left; · simp only [Act.put, List.setIfInBounds_toArray, List.set_cons_zero, List.set_cons_succ, i64_w, i32_w]; rfl
              refine pure_ (i := 34) (N := some 59) (v := ?_) (a' := ?_) b6z35_ rfl rfl (any_of HT_.out (by kernel_rfl)) (fun _ _ _ h => h) (Or.inl ⟨by rfl, ?_⟩) ?_ ?_
              rotate_left; · intro w'; go_simp; with_reducible rfl
              rotate_left; · simp only [Act.put, List.setIfInBounds_toArray, List.set_cons_zero, List.set_cons_succ, i64_w, i32_w]; rfl
              refine done_ (done_of HT_.out (by kernel_rfl)) ?_
              try go_wp2
              go_meet
              case rel => exact ⟨_, (false), (by first | rfl | (simp; done) | (simp [*]; done)), H', ⟨by have := HJ1.out; have := HK2.out; first | omega | exact Nat.le_refl _⟩, ⟨by exact blk_nw BK247.out⟩, ⟨by exact blk_nw BK250.out⟩, ⟨by exact bel0⟩⟩
           ·replace c21 := Bool.eq_false_iff.mpr c21
            subst c21
            rw [if_neg (show ¬ (false = true) by decide)] at H
            have H' := Aside0.mk H
            clear H
            try go_wp2
            have n0_ : Aside0 (((w14.setCell ⟨gb250, 0, none⟩ (.slice A249_0 ((rd_T43 l0_1 x20_2).f0).length c249_0)).setCell ⟨gb250, 1, none⟩ (.slice A249_1 ((rd_T43 l0_1 x20_2).f1).length c249_1)).heap[gb247]? = some (.cells #[.slice A0_0 l0_0.length c0_0, .slice (some ad249) l0_1.length c0_1] 30 (0, 0))) := ⟨by exact blk_kb BK247.out NB247_250.out⟩
            have n1_ : Aside0 (((w14.setCell ⟨gb250, 0, none⟩ (.slice A249_0 ((rd_T43 l0_1 x20_2).f0).length c249_0)).setCell ⟨gb250, 1, none⟩ (.slice A249_1 ((rd_T43 l0_1 x20_2).f1).length c249_1)).heap[gb250]? = some (.cells #[.slice A249_0 ((rd_T43 l0_1 x20_2).f0).length c249_0, .slice A249_1 ((rd_T43 l0_1 x20_2).f1).length c249_1] 43 (0, 0))) := ⟨by (with_reducible repeat (first | refine blk_drewN ?_ _ | refine blk_drew ?_ | refine blk_alloc ?_ _)); exact blk_fill2 BK250.out⟩
            have n2_ : Aside0 (Below w.heap.size w ((w14.setCell ⟨gb250, 0, none⟩ (.slice A249_0 ((rd_T43 l0_1 x20_2).f0).length c249_0)).setCell ⟨gb250, 1, none⟩ (.slice A249_1 ((rd_T43 l0_1 x20_2).f1).length c249_1))) := ⟨by exact bel0⟩
            (try clear BK247); (try clear BK250); (try clear HB)
            generalize ((w14.setCell ⟨gb250, 0, none⟩ (.slice A249_0 ((rd_T43 l0_1 x20_2).f0).length c249_0)).setCell ⟨gb250, 1, none⟩ (.slice A249_1 ((rd_T43 l0_1 x20_2).f1).length c249_1)) = w40 at n0_ n1_ n2_ ⊢
            have BK247 := n0_
            have BK250 := n1_
            have HB := n2_
            clear n0_ n1_ n2_
            have n_ := an (blk_drew BK247.out) (an (blk_drew BK250.out) (an (below_drew1 HB.out) (trivial)))
            clear BK247 BK250 HB
            obtain ⟨BK247, BK250, HB, -⟩ := n_
            refine start_ (n := 35) (S := fun w' => w'.cell? ⟨gb250, 0, none⟩ = some (.slice A249_0 ((rd_T43 l0_1 x20_2).f0).length c249_0) ∧ w'.cell? ⟨gb250, 1, none⟩ = some (.slice A249_1 ((rd_T43 l0_1 x20_2).f1).length c249_1) ∧ w'.cell? ⟨gb247, 0, none⟩ = some (.slice A0_0 l0_0.length c0_0) ∧ w'.cell? ⟨gb247, 1, none⟩ = some (.slice (some ad249) l0_1.length c0_1)) (ds := []) b6z0_ (by kernel_rfl) rfl rfl ⟨(blk_cell BK250.out 0).trans rfl, (blk_cell BK250.out 1).trans rfl, (blk_cell BK247.out 0).trans rfl, (blk_cell BK247.out 1).trans rfl⟩ (fun hHeld => ?_); refine with_tabW impl_LocalOk.tab6 impl_LocalOk.bits6 (fun HT_ HW_ => ?_)
            generalize w40.drew = w41 at BK247 BK250 HB hHeld ⊢
            refine pure_ (i := 0) (N := some 25) (v := ?_) (a' := ?_) b6z1_ rfl rfl (any_of HT_.out (by kernel_rfl)) (fun _ _ _ h => h) (Or.inl ⟨by rfl, ?_⟩) ?_ ?_
            rotate_left; · intro w'; go_simp; with_reducible rfl
            rotate_left; · simp only [Act.put, List.setIfInBounds_toArray, List.set_cons_zero, List.set_cons_succ, i64_w, i32_w]; rfl
            refine take_ (i := 1) (N := some 26) (v := ?_) (a' := ?_) b6z2_ rfl rfl (take_ofW HT_.out HW_.out (by kernel_rfl)) (fun _ _ _ h => h) (Or.inl ⟨by rfl, ?_⟩) hHeld ?_ ?_
            rotate_left
            ·rintro w' ⟨s0, s1, s2, s3⟩
             go_simp
             with_reducible rfl
            rotate_left; · simp only [Act.put, List.setIfInBounds_toArray, List.set_cons_zero, List.set_cons_succ, i64_w, i32_w]; rfl
            refine one_ (i := 2) (N := some 27) b6z3_ rfl rfl (one_of HT_.out (by kernel_rfl)) (by decide) (fun K hK => ?_)
            refine goes_ Try.func22 (by kernel_rfl) rfl #[.slice A249_0 ((rd_T43 l0_1 x20_2).f0).length c249_0] (by rfl) rfl rfl (by (try simp only [List.map_toArray, List.map_cons, List.map_nil]); first | done | rfl | (simp only [List.length_drop, List.length_take]; rfl)) ?_
            with_reducible refine (impl_isPlain.calls k2 _ _ ((rd_T43 l0_1 x20_2).f0) true _ ?side1 ?side2 A17.out).mono ?_
            (case side1 => repeat (first | exact (Kd.C_below HR249_0.out HB.out) | (with_reducible refine Kd.C_alloc ?_ _) | (with_reducible refine Kd.C_drewN ?_ _) | (with_reducible refine Kd.C_drew ?_)))
            (case side2 => exact HC249_0.out)
            rintro e w' ⟨rfl, ⟨nd, rfl⟩⟩
            refine ⟨_, rfl, ?_⟩
            refine hK.out _ _ ⟨(blk_cell BK250.out 0).trans rfl, (blk_cell BK250.out 1).trans rfl, (blk_cell BK247.out 0).trans rfl, (blk_cell BK247.out 1).trans rfl⟩ (fun hHeld => ?_)
            clear hK K
            refine norm_ (a' := ?_) ?_ ?_
            rotate_left
            ·show Act.put _ (some 27) _ = _
             simp only [Act.put, List.setIfInBounds_toArray, List.set_cons_zero, List.set_cons_succ, i64_w, i32_w]
             rfl
            refine pure_ (i := 3) (N := some 28) (v := ?_) (a' := ?_) b6z4_ rfl rfl (any_of HT_.out (by kernel_rfl)) (fun _ _ _ h => h) (Or.inl ⟨by rfl, ?_⟩) ?_ ?_
            rotate_left; · intro w'; go_simp; with_reducible rfl
            rotate_left; · simp only [Act.put, List.setIfInBounds_toArray, List.set_cons_zero, List.set_cons_succ, i64_w, i32_w]; rfl
            refine pure_ (i := 4) (N := some 29) (v := ?_) (a' := ?_) b6z5_ rfl rfl (any_of HT_.out (by kernel_rfl)) (fun _ _ _ h => h) (Or.inl ⟨by rfl, ?_⟩) ?_ ?_
            rotate_left; · intro w'; go_simp; with_reducible rfl
            rotate_left; · simp only [Act.put, List.setIfInBounds_toArray, List.set_cons_zero, List.set_cons_succ, i64_w, i32_w]; rfl
            refine pure_ (i := 6) (N := some 31) (v := ?_) (a' := ?_) b6z6_ rfl rfl (any_of HT_.out (by kernel_rfl)) (fun _ _ _ h => h) (Or.inl ⟨by rfl, ?_⟩) ?_ ?_
            rotate_left; · intro w'; go_simp; with_reducible rfl
            rotate_left; · simp only [Act.put, List.setIfInBounds_toArray, List.set_cons_zero, List.set_cons_succ, i64_w, i32_w]; rfl
            refine take_ (i := 5) (N := some 30) (v := ?_) (a' := ?_) b6z7_ rfl rfl (take_ofW HT_.out HW_.out (by kernel_rfl)) (fun _ _ _ h => h) (Or.inl ⟨by rfl, ?_⟩) hHeld ?_ ?_
            rotate_left
            ·rintro w' ⟨s0, s1, s2, s3⟩
             go_simp
             with_reducible rfl
            rotate_left; · simp only [Act.put, List.setIfInBounds_toArray, List.set_cons_zero, List.set_cons_succ, i64_w, i32_w]; rfl
            refine take_ (i := 7) (N := some 32) (v := ?_) (a' := ?_) b6z8_ rfl rfl (take_ofW HT_.out HW_.out (by kernel_rfl)) (fun _ _ _ h => h) (Or.inl ⟨by rfl, ?_⟩) hHeld ?_ ?_
            rotate_left
            ·rintro w' ⟨s0, s1, s2, s3⟩
             go_simp
             with_reducible rfl
            rotate_left; · simp only [Act.put, List.setIfInBounds_toArray, List.set_cons_zero, List.set_cons_succ, i64_w, i32_w]; rfl
            refine one_ (i := 8) (N := some 33) b6z9_ rfl rfl (one_of HT_.out (by kernel_rfl)) (by decide) (fun K hK => ?_)
            refine goes_ Try.func24 (by kernel_rfl) rfl #[.agg #[.slice A0_0 l0_0.length c0_0, .slice (some ad249) l0_1.length c0_1], .slice A249_0 ((rd_T43 l0_1 x20_2).f0).length c249_0] (by rfl) rfl rfl (by (try simp only [List.map_toArray, List.map_cons, List.map_nil]); first | done | rfl | (simp only [List.length_drop, List.length_take]; rfl)) ?_
            with_reducible refine (impl_Local_catalogKey.calls _ _ l0_0 _ _ l0_1 (fun k_ => k_ < w.heap.size) _ _ ((rd_T43 l0_1 x20_2).f0) t252 _ ?side1 ?side2 ?side3 ?side4 ?side5 A19.out).mono ?_
            (case side1 => repeat (first | exact (Kd.C_below HR0_0.out (by exact bel0)) | (with_reducible refine Kd.C_alloc ?_ _) | (with_reducible refine Kd.C_drewN ?_ _) | (with_reducible refine Kd.C_drew ?_)))
            (case side2 => exact HC0_0.out)
            (case side3 => repeat (first | exact (Kd.C_below HR0_1.out (by exact bel0)) | (with_reducible refine Kd.C_alloc ?_ _) | (with_reducible refine Kd.C_drewN ?_ _) | (with_reducible refine Kd.C_drew ?_)))
            (case side4 => exact HC0_1.out)
            (case side5 => exact Kd.V_mk HC249_0.out (Kd.F_below (Kd.C_F (Kd.heap_int .u8) HR249_0.out) (by exact bel0)))
            rintro e w42 ⟨v253, rfl, ho0, hb⟩
            refine ⟨_, rfl, ?_⟩
            have n_ := an (Kd.R_lower (Kd.R_mono (ok' := fun k_ => True) ho0 (fun _ hk_ => trivial)) (below_size (by exact bel0))) (an (blk_below (blk_nw BK247.out) hb) (an (blk_below (blk_nw BK250.out) hb) (an (below_step (by exact bel0) hb) (trivial))))
            clear BK247 BK250 HB
            obtain ⟨HO254, BK247, BK250, HB, -⟩ := n_
            (try clear hb); (try clear hb2); (try clear hk); (try clear hi); (try clear ho0)
            obtain ⟨Ao43, co43, eo43⟩ := Kd.R_slice HO254.out
            (first | subst eo43 | (injection eo43 with f1_ f2_ f3_; have f4_ := f1_.symm; have f5_ := f3_.symm; clear f1_ f2_ f3_; subst f4_; subst f5_))
            refine hK.out _ _ ⟨(blk_cell BK250.out 0).trans rfl, (blk_cell BK250.out 1).trans rfl, (blk_cell BK247.out 0).trans rfl, (blk_cell BK247.out 1).trans rfl⟩ (fun hHeld => ?_)
            clear hK K
            refine norm_ (a' := ?_) ?_ ?_
            rotate_left
            ·show Act.put _ (some 33) _ = _
             simp only [Act.put, List.setIfInBounds_toArray, List.set_cons_zero, List.set_cons_succ, i64_w, i32_w]
             rfl
            refine one_ (i := 9) (N := some 34) b6z10_ rfl rfl (one_of HT_.out (by kernel_rfl)) (by decide) (fun K hK => ?_)
            refine goes_ Try.func23 (by kernel_rfl) rfl #[.slice Ao43 t252.length co43] (by rfl) rfl rfl (by (try simp only [List.map_toArray, List.map_cons, List.map_nil]); first | done | rfl | (simp only [List.length_drop, List.length_take]; rfl)) ?_
            with_reducible refine (impl_KeyOk.calls k2 _ _ t252 false _ ?side1 ?side2 A20.out).mono ?_
            (case side1 => repeat (first | exact (Kd.R_reads' HO254.out).2.2 | (with_reducible refine Kd.C_alloc ?_ _) | (with_reducible refine Kd.C_drewN ?_ _) | (with_reducible refine Kd.C_drew ?_)))
            (case side2 => exact (Kd.R_reads' HO254.out).2.1)
            rintro e w' ⟨rfl, ⟨nd, rfl⟩⟩
            refine ⟨_, rfl, ?_⟩
            refine hK.out _ _ ⟨(blk_cell BK250.out 0).trans rfl, (blk_cell BK250.out 1).trans rfl, (blk_cell BK247.out 0).trans rfl, (blk_cell BK247.out 1).trans rfl⟩ (fun hHeld => ?_)
            clear hK K
            refine norm_ (a' := ?_) ?_ ?_
            rotate_left
            ·show Act.put _ (some 34) _ = _
             simp only [Act.put, List.setIfInBounds_toArray, List.set_cons_zero, List.set_cons_succ, i64_w, i32_w]
             rfl
            refine pure_ (i := 10) (N := some 35) (v := ?_) (a' := ?_) b6z11_ rfl rfl (any_of HT_.out (by kernel_rfl)) (fun _ _ _ h => h) (Or.inl ⟨by rfl, ?_⟩) ?_ ?_
            rotate_left; · intro w'; go_simp; with_reducible rfl
            rotate_left; · simp only [Act.put, List.setIfInBounds_toArray, List.set_cons_zero, List.set_cons_succ, i64_w, i32_w]; rfl
            refine pure_ (i := 11) (N := some 36) (v := ?_) (a' := ?_) b6z12_ rfl rfl (any_of HT_.out (by kernel_rfl)) (fun _ _ _ h => h) (Or.inl ⟨by rfl, ?_⟩) ?_ ?_
            rotate_left; · intro w'; go_simp; with_reducible rfl
            rotate_left; · simp only [Act.put, List.setIfInBounds_toArray, List.set_cons_zero, List.set_cons_succ, i64_w, i32_w]; rfl
            refine pure_ (i := 12) (N := some 37) (v := ?_) (a' := ?_) b6z13_ rfl rfl (any_of HT_.out (by kernel_rfl)) (fun _ _ _ h => h) (Or.inl ⟨by rfl, ?_⟩) ?_ ?_
            rotate_left; · intro w'; go_simp; with_reducible rfl
            rotate_left; · simp only [Act.put, List.setIfInBounds_toArray, List.set_cons_zero, List.set_cons_succ, i64_w, i32_w]; rfl
            refine pure_ (i := 13) (N := some 38) (v := undef) (a' := ?_) b6z14_ rfl rfl (any_of HT_.out (by kernel_rfl)) (fun _ _ _ h => h) (Or.inr ⟨by rfl, rfl⟩) ?_ ?_
            rotate_left; · simp only [Act.put, List.setIfInBounds_toArray, List.set_cons_zero, List.set_cons_succ, i64_w, i32_w]; rfl
            refine pure_ (i := 14) (N := some 39) (v := undef) (a' := ?_) b6z15_ rfl rfl (any_of HT_.out (by kernel_rfl)) (fun _ _ _ h => h) (Or.inr ⟨by rfl, rfl⟩) ?_ ?_
            rotate_left; · simp only [Act.put, List.setIfInBounds_toArray, List.set_cons_zero, List.set_cons_succ, i64_w, i32_w]; rfl
            refine pure_ (i := 15) (N := some 40) (v := undef) (a' := ?_) b6z16_ rfl rfl (any_of HT_.out (by kernel_rfl)) (fun _ _ _ h => h) (Or.inr ⟨by rfl, rfl⟩) ?_ ?_
            rotate_left; · simp only [Act.put, List.setIfInBounds_toArray, List.set_cons_zero, List.set_cons_succ, i64_w, i32_w]; rfl
            refine pure_ (i := 16) (N := some 41) (v := undef) (a' := ?_) b6z17_ rfl rfl (any_of HT_.out (by kernel_rfl)) (fun _ _ _ h => h) (Or.inr ⟨by rfl, rfl⟩) ?_ ?_
            rotate_left; · simp only [Act.put, List.setIfInBounds_toArray, List.set_cons_zero, List.set_cons_succ, i64_w, i32_w]; rfl
            refine pure_ (i := 17) (N := some 42) (v := ?_) (a' := ?_) b6z18_ rfl rfl (any_of HT_.out (by kernel_rfl)) (fun _ _ _ h => h) (Or.inl ⟨by rfl, ?_⟩) ?_ ?_
            rotate_left; · intro w'; go_simp; with_reducible rfl
            rotate_left; · simp only [Act.put, List.setIfInBounds_toArray, List.set_cons_zero, List.set_cons_succ, i64_w, i32_w]; rfl
            refine pure_ (i := 18) (N := some 43) (v := ?_) (a' := ?_) b6z19_ rfl rfl (any_of HT_.out (by kernel_rfl)) (fun _ _ _ h => h) (Or.inl ⟨by rfl, ?_⟩) ?_ ?_
            rotate_left; · intro w'; go_simp; with_reducible rfl
            rotate_left; · simp only [Act.put, List.setIfInBounds_toArray, List.set_cons_zero, List.set_cons_succ, i64_w, i32_w]; rfl
            refine pure_ (i := 19) (N := some 44) (v := undef) (a' := ?_) b6z20_ rfl rfl (any_of HT_.out (by kernel_rfl)) (fun _ _ _ h => h) (Or.inr ⟨by rfl, rfl⟩) ?_ ?_
            rotate_left; · simp only [Act.put, List.setIfInBounds_toArray, List.set_cons_zero, List.set_cons_succ, i64_w, i32_w]; rfl
            refine pure_ (i := 20) (N := some 45) (v := undef) (a' := ?_) b6z21_ rfl rfl (any_of HT_.out (by kernel_rfl)) (fun _ _ _ h => h) (Or.inr ⟨by rfl, rfl⟩) ?_ ?_
            rotate_left; · simp only [Act.put, List.setIfInBounds_toArray, List.set_cons_zero, List.set_cons_succ, i64_w, i32_w]; rfl
            refine pure_ (i := 21) (N := some 46) (v := undef) (a' := ?_) b6z22_ rfl rfl (any_of HT_.out (by kernel_rfl)) (fun _ _ _ h => h) (Or.inr ⟨by rfl, rfl⟩) ?_ ?_
            rotate_left; · simp only [Act.put, List.setIfInBounds_toArray, List.set_cons_zero, List.set_cons_succ, i64_w, i32_w]; rfl
            refine pure_ (i := 22) (N := some 47) (v := undef) (a' := ?_) b6z23_ rfl rfl (any_of HT_.out (by kernel_rfl)) (fun _ _ _ h => h) (Or.inr ⟨by rfl, rfl⟩) ?_ ?_
            rotate_left; · simp only [Act.put, List.setIfInBounds_toArray, List.set_cons_zero, List.set_cons_succ, i64_w, i32_w]; rfl
            refine pure_ (i := 23) (N := some 48) (v := undef) (a' := ?_) b6z24_ rfl rfl (any_of HT_.out (by kernel_rfl)) (fun _ _ _ h => h) (Or.inr ⟨by rfl, rfl⟩) ?_ ?_
            rotate_left; · simp only [Act.put, List.setIfInBounds_toArray, List.set_cons_zero, List.set_cons_succ, i64_w, i32_w]; rfl
            refine pure_ (i := 24) (N := some 49) (v := undef) (a' := ?_) b6z25_ rfl rfl (any_of HT_.out (by kernel_rfl)) (fun _ _ _ h => h) (Or.inr ⟨by rfl, rfl⟩) ?_ ?_
            rotate_left; · simp only [Act.put, List.setIfInBounds_toArray, List.set_cons_zero, List.set_cons_succ, i64_w, i32_w]; rfl
            refine pure_ (i := 25) (N := some 50) (v := undef) (a' := ?_) b6z26_ rfl rfl (any_of HT_.out (by kernel_rfl)) (fun _ _ _ h => h) (Or.inr ⟨by rfl, rfl⟩) ?_ ?_
            rotate_left; · simp only [Act.put, List.setIfInBounds_toArray, List.set_cons_zero, List.set_cons_succ, i64_w, i32_w]; rfl
            refine pure_ (i := 26) (N := some 51) (v := undef) (a' := ?_) b6z27_ rfl rfl (any_of HT_.out (by kernel_rfl)) (fun _ _ _ h => h) (Or.inr ⟨by rfl, rfl⟩) ?_ ?_
            rotate_left; · simp only [Act.put, List.setIfInBounds_toArray, List.set_cons_zero, List.set_cons_succ, i64_w, i32_w]; rfl
            refine pure_ (i := 27) (N := some 52) (v := undef) (a' := ?_) b6z28_ rfl rfl (any_of HT_.out (by kernel_rfl)) (fun _ _ _ h => h) (Or.inr ⟨by rfl, rfl⟩) ?_ ?_
            rotate_left; · simp only [Act.put, List.setIfInBounds_toArray, List.set_cons_zero, List.set_cons_succ, i64_w, i32_w]; rfl
            refine pure_ (i := 28) (N := some 53) (v := undef) (a' := ?_) b6z29_ rfl rfl (any_of HT_.out (by kernel_rfl)) (fun _ _ _ h => h) (Or.inr ⟨by rfl, rfl⟩) ?_ ?_
            rotate_left; · simp only [Act.put, List.setIfInBounds_toArray, List.set_cons_zero, List.set_cons_succ, i64_w, i32_w]; rfl
            refine pure_ (i := 29) (N := some 54) (v := undef) (a' := ?_) b6z30_ rfl rfl (any_of HT_.out (by kernel_rfl)) (fun _ _ _ h => h) (Or.inr ⟨by rfl, rfl⟩) ?_ ?_
            rotate_left; · simp only [Act.put, List.setIfInBounds_toArray, List.set_cons_zero, List.set_cons_succ, i64_w, i32_w]; rfl
            refine pure_ (i := 30) (N := some 55) (v := undef) (a' := ?_) b6z31_ rfl rfl (any_of HT_.out (by kernel_rfl)) (fun _ _ _ h => h) (Or.inr ⟨by rfl, rfl⟩) ?_ ?_
            rotate_left; · simp only [Act.put, List.setIfInBounds_toArray, List.set_cons_zero, List.set_cons_succ, i64_w, i32_w]; rfl
            refine pure_ (i := 31) (N := some 56) (v := undef) (a' := ?_) b6z32_ rfl rfl (any_of HT_.out (by kernel_rfl)) (fun _ _ _ h => h) (Or.inr ⟨by rfl, rfl⟩) ?_ ?_
            rotate_left; · simp only [Act.put, List.setIfInBounds_toArray, List.set_cons_zero, List.set_cons_succ, i64_w, i32_w]; rfl
            refine pure_ (i := 32) (N := some 57) (v := undef) (a' := ?_) b6z33_ rfl rfl (any_of HT_.out (by kernel_rfl)) (fun _ _ _ h => h) (Or.inr ⟨by rfl, rfl⟩) ?_ ?_
            rotate_left; · simp only [Act.put, List.setIfInBounds_toArray, List.set_cons_zero, List.set_cons_succ, i64_w, i32_w]; rfl
            refine pure_ (i := 33) (N := some 58) (v := undef) (a' := ?_) b6z34_ rfl rfl (any_of HT_.out (by kernel_rfl)) (fun _ _ _ h => h) (Or.inr ⟨by rfl, rfl⟩) ?_ ?_
            rotate_left; · simp only [Act.put, List.setIfInBounds_toArray, List.set_cons_zero, List.set_cons_succ, i64_w, i32_w]; rfl
            refine pure_ (i := 34) (N := some 59) (v := ?_) (a' := ?_) b6z35_ rfl rfl (any_of HT_.out (by kernel_rfl)) (fun _ _ _ h => h) (Or.inl ⟨by rfl, ?_⟩) ?_ ?_
            rotate_left; · intro w'; go_simp; with_reducible rfl
            rotate_left; · simp only [Act.put, List.setIfInBounds_toArray, List.set_cons_zero, List.set_cons_succ, i64_w, i32_w]; rfl
            refine done_ (done_of HT_.out (by kernel_rfl)) ?_
            try go_wp2
            go_meet
            case rel => exact ⟨_, (true), (by first | rfl | (simp; done) | (simp [*]; done)), H', ⟨by have := HJ1.out; have := HK2.out; first | omega | exact Nat.le_refl _⟩, ⟨by exact blk_nw BK247.out⟩, ⟨by exact blk_nw BK250.out⟩, ⟨by exact bel0⟩⟩
          ·replace c18 := Bool.eq_false_iff.mpr c18
           subst c18
           rw [if_neg (show ¬ (false = true) by decide)] at H
           have H' := Aside0.mk H
           clear H
           try go_wp2
           have n0_ : Aside0 (((w14.setCell ⟨gb250, 0, none⟩ (.slice A249_0 ((rd_T43 l0_1 x20_2).f0).length c249_0)).setCell ⟨gb250, 1, none⟩ (.slice A249_1 ((rd_T43 l0_1 x20_2).f1).length c249_1)).heap[gb247]? = some (.cells #[.slice A0_0 l0_0.length c0_0, .slice (some ad249) l0_1.length c0_1] 30 (0, 0))) := ⟨by exact blk_kb BK247.out NB247_250.out⟩
           have n1_ : Aside0 (((w14.setCell ⟨gb250, 0, none⟩ (.slice A249_0 ((rd_T43 l0_1 x20_2).f0).length c249_0)).setCell ⟨gb250, 1, none⟩ (.slice A249_1 ((rd_T43 l0_1 x20_2).f1).length c249_1)).heap[gb250]? = some (.cells #[.slice A249_0 ((rd_T43 l0_1 x20_2).f0).length c249_0, .slice A249_1 ((rd_T43 l0_1 x20_2).f1).length c249_1] 43 (0, 0))) := ⟨by (with_reducible repeat (first | refine blk_drewN ?_ _ | refine blk_drew ?_ | refine blk_alloc ?_ _)); exact blk_fill2 BK250.out⟩
           have n2_ : Aside0 (Below w.heap.size w ((w14.setCell ⟨gb250, 0, none⟩ (.slice A249_0 ((rd_T43 l0_1 x20_2).f0).length c249_0)).setCell ⟨gb250, 1, none⟩ (.slice A249_1 ((rd_T43 l0_1 x20_2).f1).length c249_1))) := ⟨by exact bel0⟩
           (try clear BK247); (try clear BK250); (try clear HB)
           generalize ((w14.setCell ⟨gb250, 0, none⟩ (.slice A249_0 ((rd_T43 l0_1 x20_2).f0).length c249_0)).setCell ⟨gb250, 1, none⟩ (.slice A249_1 ((rd_T43 l0_1 x20_2).f1).length c249_1)) = w44 at n0_ n1_ n2_ ⊢
           have BK247 := n0_
           have BK250 := n1_
           have HB := n2_
           clear n0_ n1_ n2_
           have n_ := an (blk_drew BK247.out) (an (blk_drew BK250.out) (an (below_drew1 HB.out) (trivial)))
           clear BK247 BK250 HB
           obtain ⟨BK247, BK250, HB, -⟩ := n_
           refine start_ (n := 35) (S := fun w' => w'.cell? ⟨gb250, 0, none⟩ = some (.slice A249_0 ((rd_T43 l0_1 x20_2).f0).length c249_0) ∧ w'.cell? ⟨gb250, 1, none⟩ = some (.slice A249_1 ((rd_T43 l0_1 x20_2).f1).length c249_1)) (ds := []) b6z0_ (by kernel_rfl) rfl rfl ⟨(blk_cell BK250.out 0).trans rfl, (blk_cell BK250.out 1).trans rfl⟩ (fun hHeld => ?_); refine with_tabW impl_LocalOk.tab6 impl_LocalOk.bits6 (fun HT_ HW_ => ?_)
           generalize w44.drew = w45 at BK247 BK250 HB hHeld ⊢
           refine pure_ (i := 0) (N := some 25) (v := ?_) (a' := ?_) b6z1_ rfl rfl (any_of HT_.out (by kernel_rfl)) (fun _ _ _ h => h) (Or.inl ⟨by rfl, ?_⟩) ?_ ?_
           rotate_left; · intro w'; go_simp; with_reducible rfl
           rotate_left; · simp only [Act.put, List.setIfInBounds_toArray, List.set_cons_zero, List.set_cons_succ, i64_w, i32_w]; rfl
           refine take_ (i := 1) (N := some 26) (v := ?_) (a' := ?_) b6z2_ rfl rfl (take_ofW HT_.out HW_.out (by kernel_rfl)) (fun _ _ _ h => h) (Or.inl ⟨by rfl, ?_⟩) hHeld ?_ ?_
           rotate_left
           ·rintro w' ⟨s0, s1⟩
            go_simp
            with_reducible rfl
           rotate_left; · simp only [Act.put, List.setIfInBounds_toArray, List.set_cons_zero, List.set_cons_succ, i64_w, i32_w]; rfl
           refine one_ (i := 2) (N := some 27) b6z3_ rfl rfl (one_of HT_.out (by kernel_rfl)) (by decide) (fun K hK => ?_)
           refine goes_ Try.func22 (by kernel_rfl) rfl #[.slice A249_0 ((rd_T43 l0_1 x20_2).f0).length c249_0] (by rfl) rfl rfl (by (try simp only [List.map_toArray, List.map_cons, List.map_nil]); first | done | rfl | (simp only [List.length_drop, List.length_take]; rfl)) ?_
           with_reducible refine (impl_isPlain.calls k2 _ _ ((rd_T43 l0_1 x20_2).f0) false _ ?side1 ?side2 A17.out).mono ?_
           (case side1 => repeat (first | exact (Kd.C_below HR249_0.out HB.out) | (with_reducible refine Kd.C_alloc ?_ _) | (with_reducible refine Kd.C_drewN ?_ _) | (with_reducible refine Kd.C_drew ?_)))
           (case side2 => exact HC249_0.out)
           rintro e w' ⟨rfl, ⟨nd, rfl⟩⟩
           refine ⟨_, rfl, ?_⟩
           refine hK.out _ _ ⟨(blk_cell BK250.out 0).trans rfl, (blk_cell BK250.out 1).trans rfl⟩ (fun hHeld => ?_)
           clear hK K
           refine norm_ (a' := ?_) ?_ ?_
           rotate_left
           ·show Act.put _ (some 27) _ = _
            simp only [Act.put, List.setIfInBounds_toArray, List.set_cons_zero, List.set_cons_succ, i64_w, i32_w]
            rfl
           refine pure_ (i := 3) (N := some 28) (v := ?_) (a' := ?_) b6z4_ rfl rfl (any_of HT_.out (by kernel_rfl)) (fun _ _ _ h => h) (Or.inl ⟨by rfl, ?_⟩) ?_ ?_
           rotate_left; · intro w'; go_simp; with_reducible rfl
           rotate_left; · simp only [Act.put, List.setIfInBounds_toArray, List.set_cons_zero, List.set_cons_succ, i64_w, i32_w]; rfl
           refine pure_ (i := 4) (N := some 29) (v := ?_) (a' := ?_) b6z5_ rfl rfl (any_of HT_.out (by kernel_rfl)) (fun _ _ _ h => h) (Or.inl ⟨by rfl, ?_⟩) ?_ ?_
           rotate_left; · intro w'; go_simp; with_reducible rfl
           rotate_left; · simp only [Act.put, List.setIfInBounds_toArray, List.set_cons_zero, List.set_cons_succ, i64_w, i32_w]; rfl
           refine pure_ (i := 5) (N := some 30) (v := undef) (a' := ?_) b6z42_ rfl rfl (any_of HT_.out (by kernel_rfl)) (fun _ _ _ h => h) (Or.inr ⟨by rfl, rfl⟩) ?_ ?_
           rotate_left; · simp only [Act.put, List.setIfInBounds_toArray, List.set_cons_zero, List.set_cons_succ, i64_w, i32_w]; rfl
           refine pure_ (i := 6) (N := some 31) (v := undef) (a' := ?_) b6z7_ rfl rfl (any_of HT_.out (by kernel_rfl)) (fun _ _ _ h => h) (Or.inr ⟨by rfl, rfl⟩) ?_ ?_
           rotate_left; · simp only [Act.put, List.setIfInBounds_toArray, List.set_cons_zero, List.set_cons_succ, i64_w, i32_w]; rfl
           refine pure_ (i := 7) (N := some 32) (v := undef) (a' := ?_) b6z8_ rfl rfl (any_of HT_.out (by kernel_rfl)) (fun _ _ _ h => h) (Or.inr ⟨by rfl, rfl⟩) ?_ ?_
           rotate_left; · simp only [Act.put, List.setIfInBounds_toArray, List.set_cons_zero, List.set_cons_succ, i64_w, i32_w]; rfl
           refine pure_ (i := 8) (N := some 33) (v := undef) (a' := ?_) b6z9_ rfl rfl (any_of HT_.out (by kernel_rfl)) (fun _ _ _ h => h) (Or.inr ⟨by rfl, rfl⟩) ?_ ?_
           rotate_left; · simp only [Act.put, List.setIfInBounds_toArray, List.set_cons_zero, List.set_cons_succ, i64_w, i32_w]; rfl
           refine pure_ (i := 9) (N := some 34) (v := undef) (a' := ?_) b6z10_ rfl rfl (any_of HT_.out (by kernel_rfl)) (fun _ _ _ h => h) (Or.inr ⟨by rfl, rfl⟩) ?_ ?_
           rotate_left; · simp only [Act.put, List.setIfInBounds_toArray, List.set_cons_zero, List.set_cons_succ, i64_w, i32_w]; rfl
           refine pure_ (i := 10) (N := some 35) (v := undef) (a' := ?_) b6z11_ rfl rfl (any_of HT_.out (by kernel_rfl)) (fun _ _ _ h => h) (Or.inr ⟨by rfl, rfl⟩) ?_ ?_
           rotate_left; · simp only [Act.put, List.setIfInBounds_toArray, List.set_cons_zero, List.set_cons_succ, i64_w, i32_w]; rfl
           refine pure_ (i := 11) (N := some 36) (v := ?_) (a' := ?_) b6z12_ rfl rfl (any_of HT_.out (by kernel_rfl)) (fun _ _ _ h => h) (Or.inl ⟨by rfl, ?_⟩) ?_ ?_
           rotate_left; · intro w'; go_simp; with_reducible rfl
           rotate_left; · simp only [Act.put, List.setIfInBounds_toArray, List.set_cons_zero, List.set_cons_succ, i64_w, i32_w]; rfl
           refine pure_ (i := 12) (N := some 37) (v := ?_) (a' := ?_) b6z13_ rfl rfl (any_of HT_.out (by kernel_rfl)) (fun _ _ _ h => h) (Or.inl ⟨by rfl, ?_⟩) ?_ ?_
           rotate_left; · intro w'; go_simp; with_reducible rfl
           rotate_left; · simp only [Act.put, List.setIfInBounds_toArray, List.set_cons_zero, List.set_cons_succ, i64_w, i32_w]; rfl
           refine pure_ (i := 13) (N := some 38) (v := undef) (a' := ?_) b6z14_ rfl rfl (any_of HT_.out (by kernel_rfl)) (fun _ _ _ h => h) (Or.inr ⟨by rfl, rfl⟩) ?_ ?_
           rotate_left; · simp only [Act.put, List.setIfInBounds_toArray, List.set_cons_zero, List.set_cons_succ, i64_w, i32_w]; rfl
           refine pure_ (i := 14) (N := some 39) (v := undef) (a' := ?_) b6z15_ rfl rfl (any_of HT_.out (by kernel_rfl)) (fun _ _ _ h => h) (Or.inr ⟨by rfl, rfl⟩) ?_ ?_
           rotate_left; · simp only [Act.put, List.setIfInBounds_toArray, List.set_cons_zero, List.set_cons_succ, i64_w, i32_w]; rfl
           refine pure_ (i := 15) (N := some 40) (v := undef) (a' := ?_) b6z16_ rfl rfl (any_of HT_.out (by kernel_rfl)) (fun _ _ _ h => h) (Or.inr ⟨by rfl, rfl⟩) ?_ ?_
           rotate_left; · simp only [Act.put, List.setIfInBounds_toArray, List.set_cons_zero, List.set_cons_succ, i64_w, i32_w]; rfl
           refine pure_ (i := 16) (N := some 41) (v := undef) (a' := ?_) b6z17_ rfl rfl (any_of HT_.out (by kernel_rfl)) (fun _ _ _ h => h) (Or.inr ⟨by rfl, rfl⟩) ?_ ?_
           rotate_left; · simp only [Act.put, List.setIfInBounds_toArray, List.set_cons_zero, List.set_cons_succ, i64_w, i32_w]; rfl
           refine pure_ (i := 17) (N := some 42) (v := ?_) (a' := ?_) b6z18_ rfl rfl (any_of HT_.out (by kernel_rfl)) (fun _ _ _ h => h) (Or.inl ⟨by rfl, ?_⟩) ?_ ?_
           rotate_left; · intro w'; go_simp; with_reducible rfl
           rotate_left; · simp only [Act.put, List.setIfInBounds_toArray, List.set_cons_zero, List.set_cons_succ, i64_w, i32_w]; rfl
           refine pure_ (i := 18) (N := some 43) (v := ?_) (a' := ?_) b6z19_ rfl rfl (any_of HT_.out (by kernel_rfl)) (fun _ _ _ h => h) (Or.inl ⟨by rfl, ?_⟩) ?_ ?_
           rotate_left; · intro w'; go_simp; with_reducible rfl
           rotate_left; · simp only [Act.put, List.setIfInBounds_toArray, List.set_cons_zero, List.set_cons_succ, i64_w, i32_w]; rfl
           refine pure_ (i := 19) (N := some 44) (v := undef) (a' := ?_) b6z20_ rfl rfl (any_of HT_.out (by kernel_rfl)) (fun _ _ _ h => h) (Or.inr ⟨by rfl, rfl⟩) ?_ ?_
           rotate_left; · simp only [Act.put, List.setIfInBounds_toArray, List.set_cons_zero, List.set_cons_succ, i64_w, i32_w]; rfl
           refine pure_ (i := 20) (N := some 45) (v := undef) (a' := ?_) b6z21_ rfl rfl (any_of HT_.out (by kernel_rfl)) (fun _ _ _ h => h) (Or.inr ⟨by rfl, rfl⟩) ?_ ?_
           rotate_left; · simp only [Act.put, List.setIfInBounds_toArray, List.set_cons_zero, List.set_cons_succ, i64_w, i32_w]; rfl
           refine pure_ (i := 21) (N := some 46) (v := undef) (a' := ?_) b6z22_ rfl rfl (any_of HT_.out (by kernel_rfl)) (fun _ _ _ h => h) (Or.inr ⟨by rfl, rfl⟩) ?_ ?_
           rotate_left; · simp only [Act.put, List.setIfInBounds_toArray, List.set_cons_zero, List.set_cons_succ, i64_w, i32_w]; rfl
           refine pure_ (i := 22) (N := some 47) (v := undef) (a' := ?_) b6z23_ rfl rfl (any_of HT_.out (by kernel_rfl)) (fun _ _ _ h => h) (Or.inr ⟨by rfl, rfl⟩) ?_ ?_
           rotate_left; · simp only [Act.put, List.setIfInBounds_toArray, List.set_cons_zero, List.set_cons_succ, i64_w, i32_w]; rfl
           refine pure_ (i := 23) (N := some 48) (v := undef) (a' := ?_) b6z24_ rfl rfl (any_of HT_.out (by kernel_rfl)) (fun _ _ _ h => h) (Or.inr ⟨by rfl, rfl⟩) ?_ ?_
           rotate_left; · simp only [Act.put, List.setIfInBounds_toArray, List.set_cons_zero, List.set_cons_succ, i64_w, i32_w]; rfl
           refine pure_ (i := 24) (N := some 49) (v := undef) (a' := ?_) b6z25_ rfl rfl (any_of HT_.out (by kernel_rfl)) (fun _ _ _ h => h) (Or.inr ⟨by rfl, rfl⟩) ?_ ?_
           rotate_left; · simp only [Act.put, List.setIfInBounds_toArray, List.set_cons_zero, List.set_cons_succ, i64_w, i32_w]; rfl
           refine pure_ (i := 25) (N := some 50) (v := undef) (a' := ?_) b6z26_ rfl rfl (any_of HT_.out (by kernel_rfl)) (fun _ _ _ h => h) (Or.inr ⟨by rfl, rfl⟩) ?_ ?_
           rotate_left; · simp only [Act.put, List.setIfInBounds_toArray, List.set_cons_zero, List.set_cons_succ, i64_w, i32_w]; rfl
           refine pure_ (i := 26) (N := some 51) (v := undef) (a' := ?_) b6z27_ rfl rfl (any_of HT_.out (by kernel_rfl)) (fun _ _ _ h => h) (Or.inr ⟨by rfl, rfl⟩) ?_ ?_
           rotate_left; · simp only [Act.put, List.setIfInBounds_toArray, List.set_cons_zero, List.set_cons_succ, i64_w, i32_w]; rfl
           refine pure_ (i := 27) (N := some 52) (v := undef) (a' := ?_) b6z28_ rfl rfl (any_of HT_.out (by kernel_rfl)) (fun _ _ _ h => h) (Or.inr ⟨by rfl, rfl⟩) ?_ ?_
           rotate_left; · simp only [Act.put, List.setIfInBounds_toArray, List.set_cons_zero, List.set_cons_succ, i64_w, i32_w]; rfl
           refine pure_ (i := 28) (N := some 53) (v := undef) (a' := ?_) b6z29_ rfl rfl (any_of HT_.out (by kernel_rfl)) (fun _ _ _ h => h) (Or.inr ⟨by rfl, rfl⟩) ?_ ?_
           rotate_left; · simp only [Act.put, List.setIfInBounds_toArray, List.set_cons_zero, List.set_cons_succ, i64_w, i32_w]; rfl
           refine pure_ (i := 29) (N := some 54) (v := undef) (a' := ?_) b6z30_ rfl rfl (any_of HT_.out (by kernel_rfl)) (fun _ _ _ h => h) (Or.inr ⟨by rfl, rfl⟩) ?_ ?_
           rotate_left; · simp only [Act.put, List.setIfInBounds_toArray, List.set_cons_zero, List.set_cons_succ, i64_w, i32_w]; rfl
           refine pure_ (i := 30) (N := some 55) (v := undef) (a' := ?_) b6z31_ rfl rfl (any_of HT_.out (by kernel_rfl)) (fun _ _ _ h => h) (Or.inr ⟨by rfl, rfl⟩) ?_ ?_
           rotate_left; · simp only [Act.put, List.setIfInBounds_toArray, List.set_cons_zero, List.set_cons_succ, i64_w, i32_w]; rfl
           refine pure_ (i := 31) (N := some 56) (v := undef) (a' := ?_) b6z32_ rfl rfl (any_of HT_.out (by kernel_rfl)) (fun _ _ _ h => h) (Or.inr ⟨by rfl, rfl⟩) ?_ ?_
           rotate_left; · simp only [Act.put, List.setIfInBounds_toArray, List.set_cons_zero, List.set_cons_succ, i64_w, i32_w]; rfl
           refine pure_ (i := 32) (N := some 57) (v := undef) (a' := ?_) b6z33_ rfl rfl (any_of HT_.out (by kernel_rfl)) (fun _ _ _ h => h) (Or.inr ⟨by rfl, rfl⟩) ?_ ?_
           rotate_left; · simp only [Act.put, List.setIfInBounds_toArray, List.set_cons_zero, List.set_cons_succ, i64_w, i32_w]; rfl
           refine pure_ (i := 33) (N := some 58) (v := undef) (a' := ?_) b6z34_ rfl rfl (any_of HT_.out (by kernel_rfl)) (fun _ _ _ h => h) (Or.inr ⟨by rfl, rfl⟩) ?_ ?_
           rotate_left; · simp only [Act.put, List.setIfInBounds_toArray, List.set_cons_zero, List.set_cons_succ, i64_w, i32_w]; rfl
           refine pure_ (i := 34) (N := some 59) (v := ?_) (a' := ?_) b6z35_ rfl rfl (any_of HT_.out (by kernel_rfl)) (fun _ _ _ h => h) (Or.inl ⟨by rfl, ?_⟩) ?_ ?_
           rotate_left; · intro w'; go_simp; with_reducible rfl
           rotate_left; · simp only [Act.put, List.setIfInBounds_toArray, List.set_cons_zero, List.set_cons_succ, i64_w, i32_w]; rfl
           refine done_ (done_of HT_.out (by kernel_rfl)) ?_
           try go_wp2
           go_meet
           case rel => exact ⟨_, (true), (by first | rfl | (simp; done) | (simp [*]; done)), H', ⟨by have := HJ1.out; have := HK2.out; first | omega | exact Nat.le_refl _⟩, ⟨by exact blk_nw BK247.out⟩, ⟨by exact blk_nw BK250.out⟩, ⟨by exact bel0⟩⟩
         case rest =>
          clear HC13; try clear c1; try clear c2; try clear p2; try clear c18; try clear c21; try clear c22; try clear c23; try clear c24
          obtain ⟨kq, x59_12, rfl, HA, HJ12, BK247, BK250, HB⟩ := hcut
          cases kq with
          | zero => exact absurd HA.out (by simp [impl_LocalOk.j2])
          | succ kj12 =>
           have H := HA.out; clear HA
           simp only [impl_LocalOk.j2] at H
           by_cases c46 : x59_12 = true
           ·subst c46; rw [if_pos rfl] at H
            obtain rfl := Option.some.inj H
            go_wp2
            go_ret
            exact ⟨by first | rfl | (simp [errW_none, errW_some] <;> rfl) | (simp [*, errW_none, errW_some] <;> rfl), by exact bel0⟩
           ·replace c46 := Bool.eq_false_iff.mpr c46
            subst c46
            rw [if_neg (show ¬ (false = true) by decide)] at H
            have H' := Aside0.mk H
            clear H; have hnb47 := NB250_247.out; have hnc47 := NB247_250.out; obtain ⟨hcz48_0, hcz48_1⟩ := blkz2 BK250.out; have hfz48_0 := blkf BK250.out
            go_wp2
            go_loopg [63] kj12 (fun kq v63 w' => ∃ (x63_4 : Int), v63 = .int .i64 x63_4 ∧ Aside0 (impl_LocalOk.l1 kq l0_1 (l0_1.length : Int) x20_2 ((rd_T43 l0_1 x20_2).f1) (((rd_T43 l0_1 x20_2).f1).length : Int) x63_4 l0_0 l0_1 ((rd_T43 l0_1 x20_2).f0) ((rd_T43 l0_1 x20_2).f1) = some r) ∧ Aside0 (kq ≤ kj12) ∧ Aside0 (w'.heap[gb247]? = some (.cells #[(.slice A0_0 l0_0.length c0_0), (.slice (some ad249) l0_1.length c0_1)] 30 (0, 0))) ∧ Aside0 (w'.heap[gb250]? = some (.cells #[(.slice A249_0 ((rd_T43 l0_1 x20_2).f0).length c249_0), (.slice A249_1 ((rd_T43 l0_1 x20_2).f1).length c249_1)] 43 (0, 0))) ∧ Aside0 (Below w.heap.size w w'))
            case atStart => exact ⟨(0), (by first | rfl | (simp; done) | (simp [*]; done)), H', ⟨Nat.le_refl _⟩, ⟨by exact blk_nw BK247.out⟩, ⟨by exact blk_nw BK250.out⟩, ⟨by exact bel0⟩⟩
            case round =>
             clear H'
             try clear c1; try clear c2; try clear p2; try clear c4; try clear c18; try clear c21; try clear c22; try clear c23; try clear c24; try clear c46; try clear c47; try clear hcz48_0; try clear hcz48_1; try clear hfz48_0; try clear hfz48_1; try clear p2
             obtain ⟨x63_4, rfl, HA, HK4, BK247, BK250, HB⟩ := hrel
             cases gk with
             | zero => exact absurd HA.out (by simp [impl_LocalOk.l1])
             | succ k4 =>
              have H := HA.out; clear HA
              simp only [impl_LocalOk.l1] at H
              by_cases c49 : x63_4 < (((rd_T43 l0_1 x20_2).f1).length : Int)
              ·rw [if_pos c49] at H
               have c49b0 : decide (x63_4 < (((rd_T43 l0_1 x20_2).f1).length : Int)) = true := decide_eq_true c49
               clear c49; (try simp only [c49b0])
               by_cases c50 : 0 ≤ x63_4
               ·rw [if_pos c50] at H; have c50b0 : decide (0 ≤ x63_4) = true := decide_eq_true c50; clear c50; (try simp only [c50b0])
                by_cases c51 : x63_4 < (((rd_T43 l0_1 x20_2).f1).length : Int)
                ·rw [if_pos c51] at H
                 have c51b0 : decide (x63_4 < (((rd_T43 l0_1 x20_2).f1).length : Int)) = true := decide_eq_true c51
                 clear c51; (try simp only [c51b0]); replace H := Option.bind_eq_some_iff.mp H; obtain ⟨t260, A520, H⟩ := H; have A52 := Aside0.mk A520; clear A520
                 by_cases c53 : t260 = true
                 ·subst c53; rw [if_pos rfl] at H
                  by_cases c54 : x63_4 > 0
                  ·rw [if_pos c54] at H; have c54b0 : decide (0 < x63_4) = true := decide_eq_true c54; clear c54; (try simp only [c54b0])
                   obtain ⟨ji55, hji55⟩ : ∃ j_ : Int, (wrap64 (x63_4 - 1)) = j_ := ⟨_, rfl⟩
                   replace H : (if 0 ≤ (ji55) then (if (ji55) < (((rd_T43 l0_1 x20_2).f1).length : Int) then ((bytes_Compare.f ((rd_T47 ((rd_T43 l0_1 x20_2).f1) (ji55)).f0) ((rd_T47 ((rd_T43 l0_1 x20_2).f1) x63_4).f0)).bind fun t262 => (if t262 ≥ 0 then (some false) else (impl_LocalOk.l1 k4 l0_1 (l0_1.length : Int) x20_2 ((rd_T43 l0_1 x20_2).f1) (((rd_T43 l0_1 x20_2).f1).length : Int) (wrap64 (x63_4 + 1)) l0_0 l0_1 ((rd_T43 l0_1 x20_2).f0) ((rd_T43 l0_1 x20_2).f1)))) else (none)) else (none)) = some r := by first | (rw [hji55] at H; exact H) | (simp only [hji55] at H ⊢; exact H)
                   (try rw [hji55] at A52)
                   have hji55w : (IntKind.i64.wrap (x63_4 - 1)) = ji55 := (i64_w _).trans hji55
                   by_cases c56 : 0 ≤ (ji55)
                   ·rw [if_pos c56] at H; have c56b0 : decide (0 ≤ (ji55)) = true := decide_eq_true c56; clear c56; (try simp only [c56b0])
                    by_cases c57 : (ji55) < (((rd_T43 l0_1 x20_2).f1).length : Int)
                    ·rw [if_pos c57] at H
                     have c57b0 : decide ((ji55) < (((rd_T43 l0_1 x20_2).f1).length : Int)) = true := decide_eq_true c57
                     clear c57; (try simp only [c57b0]); replace H := Option.bind_eq_some_iff.mp H; obtain ⟨t262, A580, H⟩ := H; have A58 := Aside0.mk A580; clear A580
                     have p258 : 0 ≤ (x63_4 : Int) := of_decide_eq_true (by first | (with_reducible assumption) | assumption)
                     have q258 : x63_4 < (((rd_T43 l0_1 x20_2).f1).length : Int) := of_decide_eq_true (by first | (with_reducible assumption) | assumption)
                     obtain ⟨ad258, A258_0, c258_0, e258, hx258_0, hx258_1, hx258_2, hx258_3, hx258_4, hx258_5, hl258_0, hi258_0⟩ := at_T47 HR249_1.out x63_4 p258 q258
                     cases e258
                     replace hx258_0 := (HB.out.cell (World.block_lt_of_cell? w _ hx258_0)).trans hx258_0
                     replace hx258_1 := (HB.out.cell (World.block_lt_of_cell? w _ hx258_1)).trans hx258_1
                     replace hx258_2 := (HB.out.cell (World.block_lt_of_cell? w _ hx258_2)).trans hx258_2
                     replace hx258_3 := (HB.out.cell (World.block_lt_of_cell? w _ hx258_3)).trans hx258_3
                     replace hx258_4 := (HB.out.cell (World.block_lt_of_cell? w _ hx258_4)).trans hx258_4
                     replace hx258_5 := (HB.out.cell (World.block_lt_of_cell? w _ hx258_5)).trans hx258_5
                     have HR258_0 := Aside0.mk hi258_0; have HC258_0 := Aside0.mk hl258_0; clear hi258_0 hl258_0
                     replace p258 := eq_true p258
                     replace q258 := eq_true q258
                     replace H := Aside0.mk H
                     try go_wp2_with (first | ((with_reducible refine gate_dst (N := 6) rfl ?_); (try (refine gate_guard (by rfl) ?_; dsimp only)); refine box_event ?hg (N := 6) ?hd (cs := #[.slice none 0 0, .int .i64 0, .int .i64 0, .int .i64 0, .int .i64 0, .int .i64 0]) (t := 47) ?hr ?_; (case hd => rfl); (case hg => rfl); (case hr => first | (go_simp; done) | (go_simp; rfl)); intro gb259 hg w59 hbox hb; have n_ := an (blk_below (blk_nw BK247.out) hb) (an (blk_below (blk_nw BK250.out) hb) (an (below_step (by exact bel0) hb) (an (hbox) (an ((by rw [hg]; exact (below_size (by exact bel0)) : w.heap.size ≤ gb259)) (an ((by rw [hg]; exact (below_size (by exact bel0)) : w.heap.size ≤ gb259)) (an ((by rw [hg]; exact Nat.ne_of_lt (blk_lt (blk_nw BK247.out)) : gb247 ≠ gb259)) (an ((by rw [hg]; exact Nat.ne_of_gt (blk_lt (blk_nw BK247.out)) : gb259 ≠ gb247)) (an ((by rw [hg]; exact Nat.ne_of_lt (blk_lt (blk_nw BK250.out)) : gb250 ≠ gb259)) (an ((by rw [hg]; exact Nat.ne_of_gt (blk_lt (blk_nw BK250.out)) : gb259 ≠ gb250)) (trivial)))))))))); clear BK247 BK250 HB; obtain ⟨BK247, BK250, HB, BK259, GW259, GE259, NB247_259, NB259_247, NB250_259, NB259_250, -⟩ := n_; clear hb hbox hg; have hnb60 := NB259_247.out; have hnc60 := NB247_259.out; have hnb61 := NB259_250.out; have hnc61 := NB250_259.out; obtain ⟨hcz62_0, hcz62_1, hcz62_2, hcz62_3, hcz62_4, hcz62_5⟩ := blkz6 BK259.out; have hfz62_0 := blkf BK259.out))
                     have n0_ : Aside0 (((((((w59.setCell ⟨gb259, 0, none⟩ (.slice A258_0 ((rd_T47 ((rd_T43 l0_1 x20_2).f1) x63_4).f0).length c258_0)).setCell ⟨gb259, 1, none⟩ (.int .i64 ((rd_T47 ((rd_T43 l0_1 x20_2).f1) x63_4).f1))).setCell ⟨gb259, 2, none⟩ (.int .i64 ((rd_T47 ((rd_T43 l0_1 x20_2).f1) x63_4).f2))).setCell ⟨gb259, 3, none⟩ (.int .i64 ((rd_T47 ((rd_T43 l0_1 x20_2).f1) x63_4).f3))).setCell ⟨gb259, 4, none⟩ (.int .i64 ((rd_T47 ((rd_T43 l0_1 x20_2).f1) x63_4).f4))).setCell ⟨gb259, 5, none⟩ (.int .i64 ((rd_T47 ((rd_T43 l0_1 x20_2).f1) x63_4).f5))).heap[gb247]? = some (.cells #[.slice A0_0 l0_0.length c0_0, .slice (some ad249) l0_1.length c0_1] 30 (0, 0))) := ⟨by exact blk_kb BK247.out NB247_259.out⟩
                     have n1_ : Aside0 (((((((w59.setCell ⟨gb259, 0, none⟩ (.slice A258_0 ((rd_T47 ((rd_T43 l0_1 x20_2).f1) x63_4).f0).length c258_0)).setCell ⟨gb259, 1, none⟩ (.int .i64 ((rd_T47 ((rd_T43 l0_1 x20_2).f1) x63_4).f1))).setCell ⟨gb259, 2, none⟩ (.int .i64 ((rd_T47 ((rd_T43 l0_1 x20_2).f1) x63_4).f2))).setCell ⟨gb259, 3, none⟩ (.int .i64 ((rd_T47 ((rd_T43 l0_1 x20_2).f1) x63_4).f3))).setCell ⟨gb259, 4, none⟩ (.int .i64 ((rd_T47 ((rd_T43 l0_1 x20_2).f1) x63_4).f4))).setCell ⟨gb259, 5, none⟩ (.int .i64 ((rd_T47 ((rd_T43 l0_1 x20_2).f1) x63_4).f5))).heap[gb250]? = some (.cells #[.slice A249_0 ((rd_T43 l0_1 x20_2).f0).length c249_0, .slice (some ad258) ((rd_T43 l0_1 x20_2).f1).length c249_1] 43 (0, 0))) := ⟨by exact blk_kb BK250.out NB250_259.out⟩
                     have n2_ : Aside0 (((((((w59.setCell ⟨gb259, 0, none⟩ (.slice A258_0 ((rd_T47 ((rd_T43 l0_1 x20_2).f1) x63_4).f0).length c258_0)).setCell ⟨gb259, 1, none⟩ (.int .i64 ((rd_T47 ((rd_T43 l0_1 x20_2).f1) x63_4).f1))).setCell ⟨gb259, 2, none⟩ (.int .i64 ((rd_T47 ((rd_T43 l0_1 x20_2).f1) x63_4).f2))).setCell ⟨gb259, 3, none⟩ (.int .i64 ((rd_T47 ((rd_T43 l0_1 x20_2).f1) x63_4).f3))).setCell ⟨gb259, 4, none⟩ (.int .i64 ((rd_T47 ((rd_T43 l0_1 x20_2).f1) x63_4).f4))).setCell ⟨gb259, 5, none⟩ (.int .i64 ((rd_T47 ((rd_T43 l0_1 x20_2).f1) x63_4).f5))).heap[gb259]? = some (.cells #[.slice A258_0 ((rd_T47 ((rd_T43 l0_1 x20_2).f1) x63_4).f0).length c258_0, .int .i64 ((rd_T47 ((rd_T43 l0_1 x20_2).f1) x63_4).f1), .int .i64 ((rd_T47 ((rd_T43 l0_1 x20_2).f1) x63_4).f2), .int .i64 ((rd_T47 ((rd_T43 l0_1 x20_2).f1) x63_4).f3), .int .i64 ((rd_T47 ((rd_T43 l0_1 x20_2).f1) x63_4).f4), .int .i64 ((rd_T47 ((rd_T43 l0_1 x20_2).f1) x63_4).f5)] 47 (0, 0))) := ⟨by (with_reducible repeat (first | refine blk_drewN ?_ _ | refine blk_drew ?_ | refine blk_alloc ?_ _)); exact blk_fill6 BK259.out⟩
                     have n3_ : Aside0 (Below w.heap.size w ((((((w59.setCell ⟨gb259, 0, none⟩ (.slice A258_0 ((rd_T47 ((rd_T43 l0_1 x20_2).f1) x63_4).f0).length c258_0)).setCell ⟨gb259, 1, none⟩ (.int .i64 ((rd_T47 ((rd_T43 l0_1 x20_2).f1) x63_4).f1))).setCell ⟨gb259, 2, none⟩ (.int .i64 ((rd_T47 ((rd_T43 l0_1 x20_2).f1) x63_4).f2))).setCell ⟨gb259, 3, none⟩ (.int .i64 ((rd_T47 ((rd_T43 l0_1 x20_2).f1) x63_4).f3))).setCell ⟨gb259, 4, none⟩ (.int .i64 ((rd_T47 ((rd_T43 l0_1 x20_2).f1) x63_4).f4))).setCell ⟨gb259, 5, none⟩ (.int .i64 ((rd_T47 ((rd_T43 l0_1 x20_2).f1) x63_4).f5)))) := ⟨by exact bel0⟩
                     (try clear BK247); (try clear BK250); (try clear BK259); (try clear HB)
                     generalize ((((((w59.setCell ⟨gb259, 0, none⟩ (.slice A258_0 ((rd_T47 ((rd_T43 l0_1 x20_2).f1) x63_4).f0).length c258_0)).setCell ⟨gb259, 1, none⟩ (.int .i64 ((rd_T47 ((rd_T43 l0_1 x20_2).f1) x63_4).f1))).setCell ⟨gb259, 2, none⟩ (.int .i64 ((rd_T47 ((rd_T43 l0_1 x20_2).f1) x63_4).f2))).setCell ⟨gb259, 3, none⟩ (.int .i64 ((rd_T47 ((rd_T43 l0_1 x20_2).f1) x63_4).f3))).setCell ⟨gb259, 4, none⟩ (.int .i64 ((rd_T47 ((rd_T43 l0_1 x20_2).f1) x63_4).f4))).setCell ⟨gb259, 5, none⟩ (.int .i64 ((rd_T47 ((rd_T43 l0_1 x20_2).f1) x63_4).f5))) = w63 at n0_ n1_ n2_ n3_ ⊢
                     have BK247 := n0_
                     have BK250 := n1_
                     have BK259 := n2_
                     have HB := n3_
                     clear n0_ n1_ n2_ n3_
                     have n_ := an (blk_drew BK247.out) (an (blk_drew BK250.out) (an (blk_drew BK259.out) (an (below_drew1 HB.out) (trivial))))
                     clear BK247 BK250 BK259 HB
                     obtain ⟨BK247, BK250, BK259, HB, -⟩ := n_
                     have p261 : 0 ≤ ((ji55) : Int) := of_decide_eq_true (by first | (with_reducible assumption) | assumption)
                     have q261 : (ji55) < (((rd_T43 l0_1 x20_2).f1).length : Int) := of_decide_eq_true (by first | (with_reducible assumption) | assumption)
                     obtain ⟨ad261, A261_0, c261_0, e261, hx261_0, hx261_1, hx261_2, hx261_3, hx261_4, hx261_5, hl261_0, hi261_0⟩ := at_T47 HR249_1.out (ji55) p261 q261
                     have hw261_5 := hx261_5
                     have hw261_4 := hx261_4
                     have hw261_3 := hx261_3
                     have hw261_2 := hx261_2
                     have hw261_1 := hx261_1
                     have hw261_0 := hx261_0
                     obtain rfl : ad258 = ad261 := (by injection e261)
                     replace hx261_0 := (HB.out.cell (World.block_lt_of_cell? w _ hx261_0)).trans hx261_0
                     replace hx261_1 := (HB.out.cell (World.block_lt_of_cell? w _ hx261_1)).trans hx261_1
                     replace hx261_2 := (HB.out.cell (World.block_lt_of_cell? w _ hx261_2)).trans hx261_2
                     replace hx261_3 := (HB.out.cell (World.block_lt_of_cell? w _ hx261_3)).trans hx261_3
                     replace hx261_4 := (HB.out.cell (World.block_lt_of_cell? w _ hx261_4)).trans hx261_4
                     replace hx261_5 := (HB.out.cell (World.block_lt_of_cell? w _ hx261_5)).trans hx261_5
                     have HR261_0 := Aside0.mk hi261_0; have HC261_0 := Aside0.mk hl261_0; clear hi261_0 hl261_0
                     replace p261 := eq_true p261
                     replace q261 := eq_true q261
                     refine start_ (n := 20) (S := fun w' => w'.cell? ⟨gb259, 0, none⟩ = some (.slice A258_0 ((rd_T47 ((rd_T43 l0_1 x20_2).f1) x63_4).f0).length c258_0) ∧ w'.cell? ⟨gb259, 1, none⟩ = some (.int .i64 ((rd_T47 ((rd_T43 l0_1 x20_2).f1) x63_4).f1)) ∧ w'.cell? ⟨gb259, 2, none⟩ = some (.int .i64 ((rd_T47 ((rd_T43 l0_1 x20_2).f1) x63_4).f2)) ∧ w'.cell? ⟨gb259, 3, none⟩ = some (.int .i64 ((rd_T47 ((rd_T43 l0_1 x20_2).f1) x63_4).f3)) ∧ w'.cell? ⟨gb259, 4, none⟩ = some (.int .i64 ((rd_T47 ((rd_T43 l0_1 x20_2).f1) x63_4).f4)) ∧ w'.cell? ⟨gb259, 5, none⟩ = some (.int .i64 ((rd_T47 ((rd_T43 l0_1 x20_2).f1) x63_4).f5)) ∧ w'.cell? ⟨gb250, 0, none⟩ = some (.slice A249_0 ((rd_T43 l0_1 x20_2).f0).length c249_0) ∧ w'.cell? ⟨gb250, 1, none⟩ = some (.slice (some ad258) ((rd_T43 l0_1 x20_2).f1).length c249_1) ∧ w'.cell? (ad258.add (((ji55)).toNat * 6)) = some (.slice A261_0 ((rd_T47 ((rd_T43 l0_1 x20_2).f1) (ji55)).f0).length c261_0) ∧ w'.cell? ⟨(ad258.add (((ji55)).toNat * 6)).block, (ad258.add (((ji55)).toNat * 6)).off + 1, none⟩ = some (.int .i64 ((rd_T47 ((rd_T43 l0_1 x20_2).f1) (ji55)).f1)) ∧ w'.cell? ⟨(ad258.add (((ji55)).toNat * 6)).block, (ad258.add (((ji55)).toNat * 6)).off + 2, none⟩ = some (.int .i64 ((rd_T47 ((rd_T43 l0_1 x20_2).f1) (ji55)).f2)) ∧ w'.cell? ⟨(ad258.add (((ji55)).toNat * 6)).block, (ad258.add (((ji55)).toNat * 6)).off + 3, none⟩ = some (.int .i64 ((rd_T47 ((rd_T43 l0_1 x20_2).f1) (ji55)).f3)) ∧ w'.cell? ⟨(ad258.add (((ji55)).toNat * 6)).block, (ad258.add (((ji55)).toNat * 6)).off + 4, none⟩ = some (.int .i64 ((rd_T47 ((rd_T43 l0_1 x20_2).f1) (ji55)).f4)) ∧ w'.cell? ⟨(ad258.add (((ji55)).toNat * 6)).block, (ad258.add (((ji55)).toNat * 6)).off + 5, none⟩ = some (.int .i64 ((rd_T47 ((rd_T43 l0_1 x20_2).f1) (ji55)).f5))) (ds := []) b6z43_ (by kernel_rfl) rfl rfl ⟨(blk_cell BK259.out 0).trans rfl, (blk_cell BK259.out 1).trans rfl, (blk_cell BK259.out 2).trans rfl, (blk_cell BK259.out 3).trans rfl, (blk_cell BK259.out 4).trans rfl, (blk_cell BK259.out 5).trans rfl, (blk_cell BK250.out 0).trans rfl, (blk_cell BK250.out 1).trans rfl, ((HB.out.cell (World.block_lt_of_cell? w _ hw261_0)).trans hw261_0), ((HB.out.cell (World.block_lt_of_cell? w _ hw261_1)).trans hw261_1), ((HB.out.cell (World.block_lt_of_cell? w _ hw261_2)).trans hw261_2), ((HB.out.cell (World.block_lt_of_cell? w _ hw261_3)).trans hw261_3), ((HB.out.cell (World.block_lt_of_cell? w _ hw261_4)).trans hw261_4), ((HB.out.cell (World.block_lt_of_cell? w _ hw261_5)).trans hw261_5)⟩ (fun hHeld => ?_); refine with_tabW impl_LocalOk.tab11 impl_LocalOk.bits11 (fun HT_ HW_ => ?_)
                     generalize w63.drew = w64 at BK247 BK250 BK259 HB HR261_0 hx261_0 hx261_1 hx261_2 hx261_3 hx261_4 hx261_5 hHeld ⊢
                     refine take_ (i := 0) (N := some 68) (v := ?_) (a' := ?_) b6z44_ rfl rfl (take_ofW HT_.out HW_.out (by kernel_rfl)) (fun _ _ _ h => h) (Or.inl ⟨by rfl, ?_⟩) hHeld ?_ ?_
                     rotate_left
                     ·rintro w' ⟨s0, s1, s2, s3, s4, s5, s6, s7, s8, s9, s10, s11, s12, s13⟩
                      go_simp
                      with_reducible rfl
                     rotate_left; · simp only [Act.put, List.setIfInBounds_toArray, List.set_cons_zero, List.set_cons_succ, i64_w, i32_w]; rfl
                     refine one_ (i := 1) (N := some 69) b6z45_ rfl rfl (one_of HT_.out (by kernel_rfl)) (by decide) (fun K hK => ?_)
                     refine goes_ Try.func26 (by kernel_rfl) rfl #[.agg #[.slice A258_0 ((rd_T47 ((rd_T43 l0_1 x20_2).f1) x63_4).f0).length c258_0, .int .i64 ((rd_T47 ((rd_T43 l0_1 x20_2).f1) x63_4).f1), .int .i64 ((rd_T47 ((rd_T43 l0_1 x20_2).f1) x63_4).f2), .int .i64 ((rd_T47 ((rd_T43 l0_1 x20_2).f1) x63_4).f3), .int .i64 ((rd_T47 ((rd_T43 l0_1 x20_2).f1) x63_4).f4), .int .i64 ((rd_T47 ((rd_T43 l0_1 x20_2).f1) x63_4).f5)]] (by rfl) rfl rfl (by (try simp only [List.map_toArray, List.map_cons, List.map_nil]); first | done | rfl | (simp only [List.length_drop, List.length_take]; rfl)) ?_
                     with_reducible refine (impl_CheckOk.calls k4 _ _ ((rd_T47 ((rd_T43 l0_1 x20_2).f1) x63_4).f0) ((rd_T47 ((rd_T43 l0_1 x20_2).f1) x63_4).f1) ((rd_T47 ((rd_T43 l0_1 x20_2).f1) x63_4).f2) ((rd_T47 ((rd_T43 l0_1 x20_2).f1) x63_4).f3) ((rd_T47 ((rd_T43 l0_1 x20_2).f1) x63_4).f4) ((rd_T47 ((rd_T43 l0_1 x20_2).f1) x63_4).f5) true _ ?side1 ?side2 A52.out).mono ?_
                     (case side1 => repeat (first | exact (Kd.C_below HR258_0.out HB.out) | (with_reducible refine Kd.C_alloc ?_ _) | (with_reducible refine Kd.C_drewN ?_ _) | (with_reducible refine Kd.C_drew ?_)))
                     (case side2 => exact HC258_0.out)
                     rintro e w65 ⟨rfl, hb⟩
                     refine ⟨_, rfl, ?_⟩
                     have n_ := an (blk_below (blk_nw BK247.out) hb) (an (blk_below (blk_nw BK250.out) hb) (an (blk_below (blk_nw BK259.out) hb) (an (below_step (by exact bel0) hb) (trivial))))
                     clear BK247 BK250 BK259 HB
                     obtain ⟨BK247, BK250, BK259, HB, -⟩ := n_
                     (try clear hb); (try clear hb2); (try clear hk); (try clear hi)
                     refine hK.out _ _ ⟨(blk_cell BK259.out 0).trans rfl, (blk_cell BK259.out 1).trans rfl, (blk_cell BK259.out 2).trans rfl, (blk_cell BK259.out 3).trans rfl, (blk_cell BK259.out 4).trans rfl, (blk_cell BK259.out 5).trans rfl, (blk_cell BK250.out 0).trans rfl, (blk_cell BK250.out 1).trans rfl, ((HB.out.cell (World.block_lt_of_cell? w _ hw261_0)).trans hw261_0), ((HB.out.cell (World.block_lt_of_cell? w _ hw261_1)).trans hw261_1), ((HB.out.cell (World.block_lt_of_cell? w _ hw261_2)).trans hw261_2), ((HB.out.cell (World.block_lt_of_cell? w _ hw261_3)).trans hw261_3), ((HB.out.cell (World.block_lt_of_cell? w _ hw261_4)).trans hw261_4), ((HB.out.cell (World.block_lt_of_cell? w _ hw261_5)).trans hw261_5)⟩ (fun hHeld => ?_)
                     clear hK K
                     refine norm_ (a' := ?_) ?_ ?_
                     rotate_left
                     ·show Act.put _ (some 69) _ = _
                      simp only [Act.put, List.setIfInBounds_toArray, List.set_cons_zero, List.set_cons_succ, i64_w, i32_w]
                      rfl
                     refine pure_ (i := 2) (N := some 70) (v := ?_) (a' := ?_) b6z46_ rfl rfl (any_of HT_.out (by kernel_rfl)) (fun _ _ _ h => h) (Or.inl ⟨by rfl, ?_⟩) ?_ ?_
                     rotate_left; · intro w'; go_simp; with_reducible rfl
                     rotate_left; · simp only [Act.put, List.setIfInBounds_toArray, List.set_cons_zero, List.set_cons_succ, i64_w, i32_w]; rfl
                     refine pure_ (i := 3) (N := some 71) (v := ?_) (a' := ?_) b6z47_ rfl rfl (any_of HT_.out (by kernel_rfl)) (fun _ _ _ h => h) (Or.inl ⟨by rfl, ?_⟩) ?_ ?_
                     rotate_left; · intro w'; go_simp; with_reducible rfl
                     rotate_left; · simp only [Act.put, List.setIfInBounds_toArray, List.set_cons_zero, List.set_cons_succ, i64_w, i32_w]; rfl
                     refine pure_ (i := 4) (N := some 72) (v := ?_) (a' := ?_) b6z48_ rfl rfl (any_of HT_.out (by kernel_rfl)) (fun _ _ _ h => h) (Or.inl ⟨by rfl, ?_⟩) ?_ ?_
                     rotate_left; · intro w'; go_simp; with_reducible rfl
                     rotate_left; · simp only [Act.put, List.setIfInBounds_toArray, List.set_cons_zero, List.set_cons_succ, i64_w, i32_w]; rfl
                     refine pure_ (i := 5) (N := some 73) (v := ?_) (a' := ?_) b6z49_ rfl rfl (any_of HT_.out (by kernel_rfl)) (fun _ _ _ h => h) (Or.inl ⟨by rfl, ?_⟩) ?_ ?_
                     rotate_left; · intro w'; go_simp; with_reducible rfl
                     rotate_left; · simp only [Act.put, List.setIfInBounds_toArray, List.set_cons_zero, List.set_cons_succ, i64_w, i32_w]; rfl
                     refine pure_ (i := 6) (N := some 74) (v := ?_) (a' := ?_) b6z50_ rfl rfl (any_of HT_.out (by kernel_rfl)) (fun _ _ _ h => h) (Or.inl ⟨by rfl, ?_⟩) ?_ ?_
                     rotate_left; · intro w'; go_simp; with_reducible rfl
                     rotate_left; · simp only [Act.put, List.setIfInBounds_toArray, List.set_cons_zero, List.set_cons_succ, i64_w, i32_w]; rfl
                     refine pure_ (i := 7) (N := some 75) (v := ?_) (a' := ?_) b6z51_ rfl rfl (any_of HT_.out (by kernel_rfl)) (fun _ _ _ h => h) (Or.inl ⟨by rfl, ?_⟩) ?_ ?_
                     rotate_left; · intro w'; go_simp; with_reducible rfl
                     rotate_left; · simp only [Act.put, List.setIfInBounds_toArray, List.set_cons_zero, List.set_cons_succ, i64_w, i32_w]; rfl
                     refine pure_ (i := 9) (N := some 77) (v := ?_) (a' := ?_) b6z52_ rfl rfl (any_of HT_.out (by kernel_rfl)) (fun _ _ _ h => h) (Or.inl ⟨by rfl, ?_⟩) ?_ ?_
                     rotate_left; · intro w'; go_simp; with_reducible rfl
                     rotate_left; · simp only [Act.put, List.setIfInBounds_toArray, List.set_cons_zero, List.set_cons_succ, i64_w, i32_w]; rfl
                     refine pure_ (i := 10) (N := some 78) (v := ?_) (a' := ?_) b6z53_ rfl rfl (any_of HT_.out (by kernel_rfl)) (fun _ _ _ h => h) (Or.inl ⟨by rfl, ?_⟩) ?_ ?_
                     rotate_left; · intro w'; go_simp; with_reducible rfl
                     rotate_left; · simp only [Act.put, List.setIfInBounds_toArray, List.set_cons_zero, List.set_cons_succ, i64_w, i32_w]; rfl
                     refine pure_ (i := 14) (N := some 82) (v := ?_) (a' := ?_) b6z54_ rfl rfl (any_of HT_.out (by kernel_rfl)) (fun _ _ _ h => h) (Or.inl ⟨by rfl, ?_⟩) ?_ ?_
                     rotate_left; · intro w'; go_simp; with_reducible rfl
                     rotate_left; · simp only [Act.put, List.setIfInBounds_toArray, List.set_cons_zero, List.set_cons_succ, i64_w, i32_w]; rfl
                     refine take_ (i := 8) (N := some 76) (v := ?_) (a' := ?_) b6z55_ rfl rfl (take_ofW HT_.out HW_.out (by kernel_rfl)) (fun _ _ _ h => h) (Or.inl ⟨by rfl, ?_⟩) hHeld ?_ ?_
                     rotate_left
                     ·rintro w' ⟨s0, s1, s2, s3, s4, s5, s6, s7, s8, s9, s10, s11, s12, s13⟩
                      go_simp
                      with_reducible rfl
                     rotate_left; · simp only [Act.put, List.setIfInBounds_toArray, List.set_cons_zero, List.set_cons_succ, i64_w, i32_w]; rfl
                     refine pure_ (i := 11) (N := some 79) (v := ?_) (a' := ?_) b6z56_ rfl rfl (any_of HT_.out (by kernel_rfl)) (fun _ _ _ h => h) (Or.inl ⟨by rfl, ?_⟩) ?_ ?_
                     rotate_left; · intro w'; go_simp; with_reducible rfl
                     rotate_left; · simp only [Act.put, List.setIfInBounds_toArray, List.set_cons_zero, List.set_cons_succ, i64_w, i32_w]; rfl
                     refine pure_ (i := 12) (N := some 80) (v := ?_) (a' := ?_) b6z57_ rfl rfl (any_of HT_.out (by kernel_rfl)) (fun _ _ _ h => h) (Or.inl ⟨by rfl, ?_⟩) ?_ ?_
                     rotate_left; · intro w'; go_simp; with_reducible rfl
                     rotate_left; · simp only [Act.put, List.setIfInBounds_toArray, List.set_cons_zero, List.set_cons_succ, i64_w, i32_w]; rfl
                     refine take_ (i := 13) (N := some 81) (v := ?_) (a' := ?_) b6z58_ rfl rfl (take_ofW HT_.out HW_.out (by kernel_rfl)) (fun _ _ _ h => h) (Or.inl ⟨by rfl, ?_⟩) hHeld ?_ ?_
                     rotate_left
                     ·rintro w' ⟨s0, s1, s2, s3, s4, s5, s6, s7, s8, s9, s10, s11, s12, s13⟩
                      go_simp
                      with_reducible rfl
                     rotate_left; · simp only [Act.put, List.setIfInBounds_toArray, List.set_cons_zero, List.set_cons_succ, i64_w, i32_w]; rfl
                     refine take_ (i := 15) (N := some 83) (v := ?_) (a' := ?_) b6z59_ rfl rfl (take_ofW HT_.out HW_.out (by kernel_rfl)) (fun _ _ _ h => h) (Or.inl ⟨by rfl, ?_⟩) hHeld ?_ ?_
                     rotate_left
                     ·rintro w' ⟨s0, s1, s2, s3, s4, s5, s6, s7, s8, s9, s10, s11, s12, s13⟩
                      go_simp
                      with_reducible rfl
                     rotate_left; · simp only [Act.put, List.setIfInBounds_toArray, List.set_cons_zero, List.set_cons_succ, i64_w, i32_w]; rfl
                     refine one_ (i := 16) (N := some 84) b6z60_ rfl rfl (one_of HT_.out (by kernel_rfl)) (by decide) (fun K hK => ?_)
                     refine goes_ Try.func25 (by kernel_rfl) rfl #[.slice A261_0 ((rd_T47 ((rd_T43 l0_1 x20_2).f1) (ji55)).f0).length c261_0, .slice A258_0 ((rd_T47 ((rd_T43 l0_1 x20_2).f1) x63_4).f0).length c258_0] (by rfl) rfl rfl (by (try simp only [List.map_toArray, List.map_cons, List.map_nil]); first | done | (simp only [hji55]; rfl) | rfl | (simp only [List.length_drop, List.length_take]; rfl)) ?_
                     with_reducible refine (bytes_Compare.calls _ _ ((rd_T47 ((rd_T43 l0_1 x20_2).f1) (ji55)).f0) _ _ ((rd_T47 ((rd_T43 l0_1 x20_2).f1) x63_4).f0) t262 _ ?side1 ?side2 ?side3 ?side4 A58.out).mono ?_
                     (case side1 => repeat (first | exact (Kd.C_below HR261_0.out HB.out) | (with_reducible refine Kd.C_alloc ?_ _) | (with_reducible refine Kd.C_drewN ?_ _) | (with_reducible refine Kd.C_drew ?_)))
                     (case side2 => exact HC261_0.out)
                     (case side3 => repeat (first | exact (Kd.C_below HR258_0.out HB.out) | (with_reducible refine Kd.C_alloc ?_ _) | (with_reducible refine Kd.C_drewN ?_ _) | (with_reducible refine Kd.C_drew ?_)))
                     (case side4 => exact HC258_0.out)
                     rintro e w' ⟨rfl, ⟨nd, rfl⟩⟩
                     refine ⟨_, rfl, ?_⟩
                     refine hK.out _ _ ⟨(blk_cell BK259.out 0).trans rfl, (blk_cell BK259.out 1).trans rfl, (blk_cell BK259.out 2).trans rfl, (blk_cell BK259.out 3).trans rfl, (blk_cell BK259.out 4).trans rfl, (blk_cell BK259.out 5).trans rfl, (blk_cell BK250.out 0).trans rfl, (blk_cell BK250.out 1).trans rfl, ((HB.out.cell (World.block_lt_of_cell? w _ hw261_0)).trans hw261_0), ((HB.out.cell (World.block_lt_of_cell? w _ hw261_1)).trans hw261_1), ((HB.out.cell (World.block_lt_of_cell? w _ hw261_2)).trans hw261_2), ((HB.out.cell (World.block_lt_of_cell? w _ hw261_3)).trans hw261_3), ((HB.out.cell (World.block_lt_of_cell? w _ hw261_4)).trans hw261_4), ((HB.out.cell (World.block_lt_of_cell? w _ hw261_5)).trans hw261_5)⟩ (fun hHeld => ?_)
                     clear hK K
                     refine norm_ (a' := ?_) ?_ ?_
                     rotate_left
                     ·show Act.put _ (some 84) _ = _
                      simp only [Act.put, List.setIfInBounds_toArray, List.set_cons_zero, List.set_cons_succ, i64_w, i32_w]
                      rfl
                     refine pure_ (i := 17) (N := some 85) (v := ?_) (a' := ?_) b6z61_ rfl rfl (any_of HT_.out (by kernel_rfl)) (fun _ _ _ h => h) (Or.inl ⟨by rfl, ?_⟩) ?_ ?_
                     rotate_left; · intro w'; go_simp; with_reducible rfl
                     rotate_left; · simp only [Act.put, List.setIfInBounds_toArray, List.set_cons_zero, List.set_cons_succ, i64_w, i32_w]; rfl
                     refine pure_ (i := 18) (N := some 86) (v := ?_) (a' := ?_) b6z62_ rfl rfl (any_of HT_.out (by kernel_rfl)) (fun _ _ _ h => h) (Or.inl ⟨by rfl, ?_⟩) ?_ ?_
                     rotate_left; · intro w'; go_simp; with_reducible rfl
                     rotate_left; · simp only [Act.put, List.setIfInBounds_toArray, List.set_cons_zero, List.set_cons_succ, i64_w, i32_w]; rfl
                     refine pure_ (i := 19) (N := some 87) (v := ?_) (a' := ?_) b6z63_ rfl rfl (any_of HT_.out (by kernel_rfl)) (fun _ _ _ h => h) (Or.inl ⟨by rfl, ?_⟩) ?_ ?_
                     rotate_left; · intro w'; go_simp; with_reducible rfl
                     rotate_left; · simp only [Act.put, List.setIfInBounds_toArray, List.set_cons_zero, List.set_cons_succ, i64_w, i32_w]; rfl
                     refine done_ (done_of HT_.out (by kernel_rfl)) ?_
                     replace H := H.out
                     by_cases c66 : t262 ≥ 0
                     ·rw [if_pos c66] at H; have c66b0 : decide (0 ≤ t262) = true := decide_eq_true c66; clear c66; (try simp only [c66b0])
                      obtain rfl := Option.some.inj H
                      go_wp2
                      go_ret
                      exact ⟨by first | rfl | (simp [errW_none, errW_some] <;> rfl) | (simp only [← hji55]; first | rfl | (simp [errW_none, errW_some] <;> rfl)) | (simp [*, errW_none, errW_some] <;> rfl), by exact bel0⟩
                     ·rw [if_neg c66] at H; have c66b0 : decide (0 ≤ t262) = false := decide_eq_false c66; clear c66; (try simp only [c66b0])
                      have H' := Aside0.mk H
                      clear H
                      go_wp2
                      go_roundg k4
                      case measure => have := HJ1.out; have := HK2.out; have := HJ12.out; have := HK4.out; omega
                      case rel => exact ⟨(wrap64 (x63_4 + 1)), (by first | rfl | (simp; done) | (simp [*]; done)), H', ⟨by have := HJ1.out; have := HK2.out; have := HJ12.out; have := HK4.out; omega⟩, ⟨by exact blk_nw BK247.out⟩, ⟨by exact blk_nw BK250.out⟩, ⟨by exact bel0⟩⟩
                    ·rw [if_neg c57] at H
                     exact absurd H (by simp)
                   ·rw [if_neg c56] at H
                    exact absurd H (by simp)
                  ·rw [if_neg c54] at H; have c54b0 : decide (0 < x63_4) = false := decide_eq_false c54; clear c54; (try simp only [c54b0])
                   have H' := Aside0.mk H
                   clear H
                   have p258 : 0 ≤ (x63_4 : Int) := of_decide_eq_true (by first | (with_reducible assumption) | assumption)
                   have q258 : x63_4 < (((rd_T43 l0_1 x20_2).f1).length : Int) := of_decide_eq_true (by first | (with_reducible assumption) | assumption)
                   obtain ⟨ad258, A258_0, c258_0, e258, hx258_0, hx258_1, hx258_2, hx258_3, hx258_4, hx258_5, hl258_0, hi258_0⟩ := at_T47 HR249_1.out x63_4 p258 q258
                   cases e258
                   replace hx258_0 := (HB.out.cell (World.block_lt_of_cell? w _ hx258_0)).trans hx258_0
                   replace hx258_1 := (HB.out.cell (World.block_lt_of_cell? w _ hx258_1)).trans hx258_1
                   replace hx258_2 := (HB.out.cell (World.block_lt_of_cell? w _ hx258_2)).trans hx258_2
                   replace hx258_3 := (HB.out.cell (World.block_lt_of_cell? w _ hx258_3)).trans hx258_3
                   replace hx258_4 := (HB.out.cell (World.block_lt_of_cell? w _ hx258_4)).trans hx258_4
                   replace hx258_5 := (HB.out.cell (World.block_lt_of_cell? w _ hx258_5)).trans hx258_5
                   have HR258_0 := Aside0.mk hi258_0; have HC258_0 := Aside0.mk hl258_0; clear hi258_0 hl258_0
                   replace p258 := eq_true p258
                   replace q258 := eq_true q258
                   try go_wp2_with (first | ((with_reducible refine gate_dst (N := 6) rfl ?_); (try (refine gate_guard (by rfl) ?_; dsimp only)); refine box_event ?hg (N := 6) ?hd (cs := #[.slice none 0 0, .int .i64 0, .int .i64 0, .int .i64 0, .int .i64 0, .int .i64 0]) (t := 47) ?hr ?_; (case hd => rfl); (case hg => rfl); (case hr => first | (go_simp; done) | (go_simp; rfl)); intro gb259 hg w67 hbox hb; have n_ := an (blk_below (blk_nw BK247.out) hb) (an (blk_below (blk_nw BK250.out) hb) (an (below_step (by exact bel0) hb) (an (hbox) (an ((by rw [hg]; exact (below_size (by exact bel0)) : w.heap.size ≤ gb259)) (an ((by rw [hg]; exact (below_size (by exact bel0)) : w.heap.size ≤ gb259)) (an ((by rw [hg]; exact Nat.ne_of_lt (blk_lt (blk_nw BK247.out)) : gb247 ≠ gb259)) (an ((by rw [hg]; exact Nat.ne_of_gt (blk_lt (blk_nw BK247.out)) : gb259 ≠ gb247)) (an ((by rw [hg]; exact Nat.ne_of_lt (blk_lt (blk_nw BK250.out)) : gb250 ≠ gb259)) (an ((by rw [hg]; exact Nat.ne_of_gt (blk_lt (blk_nw BK250.out)) : gb259 ≠ gb250)) (trivial)))))))))); clear BK247 BK250 HB; obtain ⟨BK247, BK250, HB, BK259, GW259, GE259, NB247_259, NB259_247, NB250_259, NB259_250, -⟩ := n_; clear hb hbox hg; have hnb68 := NB259_247.out; have hnc68 := NB247_259.out; have hnb69 := NB259_250.out; have hnc69 := NB250_259.out; obtain ⟨hcz70_0, hcz70_1, hcz70_2, hcz70_3, hcz70_4, hcz70_5⟩ := blkz6 BK259.out; have hfz70_0 := blkf BK259.out))
                   have n0_ : Aside0 (((((((w67.setCell ⟨gb259, 0, none⟩ (.slice A258_0 ((rd_T47 ((rd_T43 l0_1 x20_2).f1) x63_4).f0).length c258_0)).setCell ⟨gb259, 1, none⟩ (.int .i64 ((rd_T47 ((rd_T43 l0_1 x20_2).f1) x63_4).f1))).setCell ⟨gb259, 2, none⟩ (.int .i64 ((rd_T47 ((rd_T43 l0_1 x20_2).f1) x63_4).f2))).setCell ⟨gb259, 3, none⟩ (.int .i64 ((rd_T47 ((rd_T43 l0_1 x20_2).f1) x63_4).f3))).setCell ⟨gb259, 4, none⟩ (.int .i64 ((rd_T47 ((rd_T43 l0_1 x20_2).f1) x63_4).f4))).setCell ⟨gb259, 5, none⟩ (.int .i64 ((rd_T47 ((rd_T43 l0_1 x20_2).f1) x63_4).f5))).heap[gb247]? = some (.cells #[.slice A0_0 l0_0.length c0_0, .slice (some ad249) l0_1.length c0_1] 30 (0, 0))) := ⟨by exact blk_kb BK247.out NB247_259.out⟩
                   have n1_ : Aside0 (((((((w67.setCell ⟨gb259, 0, none⟩ (.slice A258_0 ((rd_T47 ((rd_T43 l0_1 x20_2).f1) x63_4).f0).length c258_0)).setCell ⟨gb259, 1, none⟩ (.int .i64 ((rd_T47 ((rd_T43 l0_1 x20_2).f1) x63_4).f1))).setCell ⟨gb259, 2, none⟩ (.int .i64 ((rd_T47 ((rd_T43 l0_1 x20_2).f1) x63_4).f2))).setCell ⟨gb259, 3, none⟩ (.int .i64 ((rd_T47 ((rd_T43 l0_1 x20_2).f1) x63_4).f3))).setCell ⟨gb259, 4, none⟩ (.int .i64 ((rd_T47 ((rd_T43 l0_1 x20_2).f1) x63_4).f4))).setCell ⟨gb259, 5, none⟩ (.int .i64 ((rd_T47 ((rd_T43 l0_1 x20_2).f1) x63_4).f5))).heap[gb250]? = some (.cells #[.slice A249_0 ((rd_T43 l0_1 x20_2).f0).length c249_0, .slice (some ad258) ((rd_T43 l0_1 x20_2).f1).length c249_1] 43 (0, 0))) := ⟨by exact blk_kb BK250.out NB250_259.out⟩
                   have n2_ : Aside0 (((((((w67.setCell ⟨gb259, 0, none⟩ (.slice A258_0 ((rd_T47 ((rd_T43 l0_1 x20_2).f1) x63_4).f0).length c258_0)).setCell ⟨gb259, 1, none⟩ (.int .i64 ((rd_T47 ((rd_T43 l0_1 x20_2).f1) x63_4).f1))).setCell ⟨gb259, 2, none⟩ (.int .i64 ((rd_T47 ((rd_T43 l0_1 x20_2).f1) x63_4).f2))).setCell ⟨gb259, 3, none⟩ (.int .i64 ((rd_T47 ((rd_T43 l0_1 x20_2).f1) x63_4).f3))).setCell ⟨gb259, 4, none⟩ (.int .i64 ((rd_T47 ((rd_T43 l0_1 x20_2).f1) x63_4).f4))).setCell ⟨gb259, 5, none⟩ (.int .i64 ((rd_T47 ((rd_T43 l0_1 x20_2).f1) x63_4).f5))).heap[gb259]? = some (.cells #[.slice A258_0 ((rd_T47 ((rd_T43 l0_1 x20_2).f1) x63_4).f0).length c258_0, .int .i64 ((rd_T47 ((rd_T43 l0_1 x20_2).f1) x63_4).f1), .int .i64 ((rd_T47 ((rd_T43 l0_1 x20_2).f1) x63_4).f2), .int .i64 ((rd_T47 ((rd_T43 l0_1 x20_2).f1) x63_4).f3), .int .i64 ((rd_T47 ((rd_T43 l0_1 x20_2).f1) x63_4).f4), .int .i64 ((rd_T47 ((rd_T43 l0_1 x20_2).f1) x63_4).f5)] 47 (0, 0))) := ⟨by (with_reducible repeat (first | refine blk_drewN ?_ _ | refine blk_drew ?_ | refine blk_alloc ?_ _)); exact blk_fill6 BK259.out⟩
                   have n3_ : Aside0 (Below w.heap.size w ((((((w67.setCell ⟨gb259, 0, none⟩ (.slice A258_0 ((rd_T47 ((rd_T43 l0_1 x20_2).f1) x63_4).f0).length c258_0)).setCell ⟨gb259, 1, none⟩ (.int .i64 ((rd_T47 ((rd_T43 l0_1 x20_2).f1) x63_4).f1))).setCell ⟨gb259, 2, none⟩ (.int .i64 ((rd_T47 ((rd_T43 l0_1 x20_2).f1) x63_4).f2))).setCell ⟨gb259, 3, none⟩ (.int .i64 ((rd_T47 ((rd_T43 l0_1 x20_2).f1) x63_4).f3))).setCell ⟨gb259, 4, none⟩ (.int .i64 ((rd_T47 ((rd_T43 l0_1 x20_2).f1) x63_4).f4))).setCell ⟨gb259, 5, none⟩ (.int .i64 ((rd_T47 ((rd_T43 l0_1 x20_2).f1) x63_4).f5)))) := ⟨by exact bel0⟩
                   (try clear BK247); (try clear BK250); (try clear BK259); (try clear HB)
                   generalize ((((((w67.setCell ⟨gb259, 0, none⟩ (.slice A258_0 ((rd_T47 ((rd_T43 l0_1 x20_2).f1) x63_4).f0).length c258_0)).setCell ⟨gb259, 1, none⟩ (.int .i64 ((rd_T47 ((rd_T43 l0_1 x20_2).f1) x63_4).f1))).setCell ⟨gb259, 2, none⟩ (.int .i64 ((rd_T47 ((rd_T43 l0_1 x20_2).f1) x63_4).f2))).setCell ⟨gb259, 3, none⟩ (.int .i64 ((rd_T47 ((rd_T43 l0_1 x20_2).f1) x63_4).f3))).setCell ⟨gb259, 4, none⟩ (.int .i64 ((rd_T47 ((rd_T43 l0_1 x20_2).f1) x63_4).f4))).setCell ⟨gb259, 5, none⟩ (.int .i64 ((rd_T47 ((rd_T43 l0_1 x20_2).f1) x63_4).f5))) = w71 at n0_ n1_ n2_ n3_ ⊢
                   have BK247 := n0_
                   have BK250 := n1_
                   have BK259 := n2_
                   have HB := n3_
                   clear n0_ n1_ n2_ n3_
                   have n_ := an (blk_drew BK247.out) (an (blk_drew BK250.out) (an (blk_drew BK259.out) (an (below_drew1 HB.out) (trivial))))
                   clear BK247 BK250 BK259 HB
                   obtain ⟨BK247, BK250, BK259, HB, -⟩ := n_
                   refine start_ (n := 20) (S := fun w' => w'.cell? ⟨gb259, 0, none⟩ = some (.slice A258_0 ((rd_T47 ((rd_T43 l0_1 x20_2).f1) x63_4).f0).length c258_0) ∧ w'.cell? ⟨gb259, 1, none⟩ = some (.int .i64 ((rd_T47 ((rd_T43 l0_1 x20_2).f1) x63_4).f1)) ∧ w'.cell? ⟨gb259, 2, none⟩ = some (.int .i64 ((rd_T47 ((rd_T43 l0_1 x20_2).f1) x63_4).f2)) ∧ w'.cell? ⟨gb259, 3, none⟩ = some (.int .i64 ((rd_T47 ((rd_T43 l0_1 x20_2).f1) x63_4).f3)) ∧ w'.cell? ⟨gb259, 4, none⟩ = some (.int .i64 ((rd_T47 ((rd_T43 l0_1 x20_2).f1) x63_4).f4)) ∧ w'.cell? ⟨gb259, 5, none⟩ = some (.int .i64 ((rd_T47 ((rd_T43 l0_1 x20_2).f1) x63_4).f5))) (ds := []) b6z43_ (by kernel_rfl) rfl rfl ⟨(blk_cell BK259.out 0).trans rfl, (blk_cell BK259.out 1).trans rfl, (blk_cell BK259.out 2).trans rfl, (blk_cell BK259.out 3).trans rfl, (blk_cell BK259.out 4).trans rfl, (blk_cell BK259.out 5).trans rfl⟩ (fun hHeld => ?_); refine with_tabW impl_LocalOk.tab11 impl_LocalOk.bits11 (fun HT_ HW_ => ?_)
                   generalize w71.drew = w72 at BK247 BK250 BK259 HB hHeld ⊢
                   refine take_ (i := 0) (N := some 68) (v := ?_) (a' := ?_) b6z44_ rfl rfl (take_ofW HT_.out HW_.out (by kernel_rfl)) (fun _ _ _ h => h) (Or.inl ⟨by rfl, ?_⟩) hHeld ?_ ?_
                   rotate_left
                   ·rintro w' ⟨s0, s1, s2, s3, s4, s5⟩
                    go_simp
                    with_reducible rfl
                   rotate_left; · simp only [Act.put, List.setIfInBounds_toArray, List.set_cons_zero, List.set_cons_succ, i64_w, i32_w]; rfl
                   refine one_ (i := 1) (N := some 69) b6z45_ rfl rfl (one_of HT_.out (by kernel_rfl)) (by decide) (fun K hK => ?_)
                   refine goes_ Try.func26 (by kernel_rfl) rfl #[.agg #[.slice A258_0 ((rd_T47 ((rd_T43 l0_1 x20_2).f1) x63_4).f0).length c258_0, .int .i64 ((rd_T47 ((rd_T43 l0_1 x20_2).f1) x63_4).f1), .int .i64 ((rd_T47 ((rd_T43 l0_1 x20_2).f1) x63_4).f2), .int .i64 ((rd_T47 ((rd_T43 l0_1 x20_2).f1) x63_4).f3), .int .i64 ((rd_T47 ((rd_T43 l0_1 x20_2).f1) x63_4).f4), .int .i64 ((rd_T47 ((rd_T43 l0_1 x20_2).f1) x63_4).f5)]] (by rfl) rfl rfl (by (try simp only [List.map_toArray, List.map_cons, List.map_nil]); first | done | rfl | (simp only [List.length_drop, List.length_take]; rfl)) ?_
                   with_reducible refine (impl_CheckOk.calls k4 _ _ ((rd_T47 ((rd_T43 l0_1 x20_2).f1) x63_4).f0) ((rd_T47 ((rd_T43 l0_1 x20_2).f1) x63_4).f1) ((rd_T47 ((rd_T43 l0_1 x20_2).f1) x63_4).f2) ((rd_T47 ((rd_T43 l0_1 x20_2).f1) x63_4).f3) ((rd_T47 ((rd_T43 l0_1 x20_2).f1) x63_4).f4) ((rd_T47 ((rd_T43 l0_1 x20_2).f1) x63_4).f5) true _ ?side1 ?side2 A52.out).mono ?_
                   (case side1 => repeat (first | exact (Kd.C_below HR258_0.out HB.out) | (with_reducible refine Kd.C_alloc ?_ _) | (with_reducible refine Kd.C_drewN ?_ _) | (with_reducible refine Kd.C_drew ?_)))
                   (case side2 => exact HC258_0.out)
                   rintro e w73 ⟨rfl, hb⟩
                   refine ⟨_, rfl, ?_⟩
                   have n_ := an (blk_below (blk_nw BK247.out) hb) (an (blk_below (blk_nw BK250.out) hb) (an (blk_below (blk_nw BK259.out) hb) (an (below_step (by exact bel0) hb) (trivial))))
                   clear BK247 BK250 BK259 HB
                   obtain ⟨BK247, BK250, BK259, HB, -⟩ := n_
                   (try clear hb); (try clear hb2); (try clear hk); (try clear hi)
                   refine hK.out _ _ ⟨(blk_cell BK259.out 0).trans rfl, (blk_cell BK259.out 1).trans rfl, (blk_cell BK259.out 2).trans rfl, (blk_cell BK259.out 3).trans rfl, (blk_cell BK259.out 4).trans rfl, (blk_cell BK259.out 5).trans rfl⟩ (fun hHeld => ?_)
                   clear hK K
                   refine norm_ (a' := ?_) ?_ ?_
                   rotate_left
                   ·show Act.put _ (some 69) _ = _
                    simp only [Act.put, List.setIfInBounds_toArray, List.set_cons_zero, List.set_cons_succ, i64_w, i32_w]
                    rfl
                   refine pure_ (i := 2) (N := some 70) (v := ?_) (a' := ?_) b6z46_ rfl rfl (any_of HT_.out (by kernel_rfl)) (fun _ _ _ h => h) (Or.inl ⟨by rfl, ?_⟩) ?_ ?_
                   rotate_left; · intro w'; go_simp; with_reducible rfl
                   rotate_left; · simp only [Act.put, List.setIfInBounds_toArray, List.set_cons_zero, List.set_cons_succ, i64_w, i32_w]; rfl
                   refine pure_ (i := 3) (N := some 71) (v := ?_) (a' := ?_) b6z47_ rfl rfl (any_of HT_.out (by kernel_rfl)) (fun _ _ _ h => h) (Or.inl ⟨by rfl, ?_⟩) ?_ ?_
                   rotate_left; · intro w'; go_simp; with_reducible rfl
                   rotate_left; · simp only [Act.put, List.setIfInBounds_toArray, List.set_cons_zero, List.set_cons_succ, i64_w, i32_w]; rfl
                   refine pure_ (i := 4) (N := some 72) (v := ?_) (a' := ?_) b6z48_ rfl rfl (any_of HT_.out (by kernel_rfl)) (fun _ _ _ h => h) (Or.inl ⟨by rfl, ?_⟩) ?_ ?_
                   rotate_left; · intro w'; go_simp; with_reducible rfl
                   rotate_left; · simp only [Act.put, List.setIfInBounds_toArray, List.set_cons_zero, List.set_cons_succ, i64_w, i32_w]; rfl
                   refine pure_ (i := 5) (N := some 73) (v := ?_) (a' := ?_) b6z49_ rfl rfl (any_of HT_.out (by kernel_rfl)) (fun _ _ _ h => h) (Or.inl ⟨by rfl, ?_⟩) ?_ ?_
                   rotate_left; · intro w'; go_simp; with_reducible rfl
                   rotate_left; · simp only [Act.put, List.setIfInBounds_toArray, List.set_cons_zero, List.set_cons_succ, i64_w, i32_w]; rfl
                   refine pure_ (i := 6) (N := some 74) (v := ?_) (a' := ?_) b6z50_ rfl rfl (any_of HT_.out (by kernel_rfl)) (fun _ _ _ h => h) (Or.inl ⟨by rfl, ?_⟩) ?_ ?_
                   rotate_left; · intro w'; go_simp; with_reducible rfl
                   rotate_left; · simp only [Act.put, List.setIfInBounds_toArray, List.set_cons_zero, List.set_cons_succ, i64_w, i32_w]; rfl
                   refine pure_ (i := 7) (N := some 75) (v := undef) (a' := ?_) b6z51_ rfl rfl (any_of HT_.out (by kernel_rfl)) (fun _ _ _ h => h) (Or.inr ⟨by rfl, rfl⟩) ?_ ?_
                   rotate_left; · simp only [Act.put, List.setIfInBounds_toArray, List.set_cons_zero, List.set_cons_succ, i64_w, i32_w]; rfl
                   refine pure_ (i := 8) (N := some 76) (v := undef) (a' := ?_) b6z64_ rfl rfl (any_of HT_.out (by kernel_rfl)) (fun _ _ _ h => h) (Or.inr ⟨by rfl, rfl⟩) ?_ ?_
                   rotate_left; · simp only [Act.put, List.setIfInBounds_toArray, List.set_cons_zero, List.set_cons_succ, i64_w, i32_w]; rfl
                   refine pure_ (i := 9) (N := some 77) (v := undef) (a' := ?_) b6z65_ rfl rfl (any_of HT_.out (by kernel_rfl)) (fun _ _ _ h => h) (Or.inr ⟨by rfl, rfl⟩) ?_ ?_
                   rotate_left; · simp only [Act.put, List.setIfInBounds_toArray, List.set_cons_zero, List.set_cons_succ, i64_w, i32_w]; rfl
                   refine pure_ (i := 10) (N := some 78) (v := undef) (a' := ?_) b6z66_ rfl rfl (any_of HT_.out (by kernel_rfl)) (fun _ _ _ h => h) (Or.inr ⟨by rfl, rfl⟩) ?_ ?_
                   rotate_left; · simp only [Act.put, List.setIfInBounds_toArray, List.set_cons_zero, List.set_cons_succ, i64_w, i32_w]; rfl
                   refine pure_ (i := 11) (N := some 79) (v := undef) (a' := ?_) b6z67_ rfl rfl (any_of HT_.out (by kernel_rfl)) (fun _ _ _ h => h) (Or.inr ⟨by rfl, rfl⟩) ?_ ?_
                   rotate_left; · simp only [Act.put, List.setIfInBounds_toArray, List.set_cons_zero, List.set_cons_succ, i64_w, i32_w]; rfl
                   refine pure_ (i := 12) (N := some 80) (v := undef) (a' := ?_) b6z68_ rfl rfl (any_of HT_.out (by kernel_rfl)) (fun _ _ _ h => h) (Or.inr ⟨by rfl, rfl⟩) ?_ ?_
                   rotate_left; · simp only [Act.put, List.setIfInBounds_toArray, List.set_cons_zero, List.set_cons_succ, i64_w, i32_w]; rfl
                   refine pure_ (i := 13) (N := some 81) (v := undef) (a' := ?_) b6z69_ rfl rfl (any_of HT_.out (by kernel_rfl)) (fun _ _ _ h => h) (Or.inr ⟨by rfl, rfl⟩) ?_ ?_
                   rotate_left; · simp only [Act.put, List.setIfInBounds_toArray, List.set_cons_zero, List.set_cons_succ, i64_w, i32_w]; rfl
                   refine pure_ (i := 14) (N := some 82) (v := undef) (a' := ?_) b6z58_ rfl rfl (any_of HT_.out (by kernel_rfl)) (fun _ _ _ h => h) (Or.inr ⟨by rfl, rfl⟩) ?_ ?_
                   rotate_left; · simp only [Act.put, List.setIfInBounds_toArray, List.set_cons_zero, List.set_cons_succ, i64_w, i32_w]; rfl
                   refine pure_ (i := 15) (N := some 83) (v := undef) (a' := ?_) b6z59_ rfl rfl (any_of HT_.out (by kernel_rfl)) (fun _ _ _ h => h) (Or.inr ⟨by rfl, rfl⟩) ?_ ?_
                   rotate_left; · simp only [Act.put, List.setIfInBounds_toArray, List.set_cons_zero, List.set_cons_succ, i64_w, i32_w]; rfl
                   refine pure_ (i := 16) (N := some 84) (v := undef) (a' := ?_) b6z60_ rfl rfl (any_of HT_.out (by kernel_rfl)) (fun _ _ _ h => h) (Or.inr ⟨by rfl, rfl⟩) ?_ ?_
                   rotate_left; · simp only [Act.put, List.setIfInBounds_toArray, List.set_cons_zero, List.set_cons_succ, i64_w, i32_w]; rfl
                   refine pure_ (i := 17) (N := some 85) (v := undef) (a' := ?_) b6z61_ rfl rfl (any_of HT_.out (by kernel_rfl)) (fun _ _ _ h => h) (Or.inr ⟨by rfl, rfl⟩) ?_ ?_
                   rotate_left; · simp only [Act.put, List.setIfInBounds_toArray, List.set_cons_zero, List.set_cons_succ, i64_w, i32_w]; rfl
                   refine pure_ (i := 18) (N := some 86) (v := ?_) (a' := ?_) b6z62_ rfl rfl (any_of HT_.out (by kernel_rfl)) (fun _ _ _ h => h) (Or.inl ⟨by rfl, ?_⟩) ?_ ?_
                   rotate_left; · intro w'; go_simp; with_reducible rfl
                   rotate_left; · simp only [Act.put, List.setIfInBounds_toArray, List.set_cons_zero, List.set_cons_succ, i64_w, i32_w]; rfl
                   refine pure_ (i := 19) (N := some 87) (v := ?_) (a' := ?_) b6z63_ rfl rfl (any_of HT_.out (by kernel_rfl)) (fun _ _ _ h => h) (Or.inl ⟨by rfl, ?_⟩) ?_ ?_
                   rotate_left; · intro w'; go_simp; with_reducible rfl
                   rotate_left; · simp only [Act.put, List.setIfInBounds_toArray, List.set_cons_zero, List.set_cons_succ, i64_w, i32_w]; rfl
                   refine done_ (done_of HT_.out (by kernel_rfl)) ?_
                   try go_wp2
                   go_roundg k4
                   case measure => have := HJ1.out; have := HK2.out; have := HJ12.out; have := HK4.out; omega
                   case rel => exact ⟨(wrap64 (x63_4 + 1)), (by first | rfl | (simp; done) | (simp [*]; done)), H', ⟨by have := HJ1.out; have := HK2.out; have := HJ12.out; have := HK4.out; omega⟩, ⟨by exact blk_nw BK247.out⟩, ⟨by exact blk_nw BK250.out⟩, ⟨by exact bel0⟩⟩
                 ·replace c53 := Bool.eq_false_iff.mpr c53
                  subst c53
                  rw [if_neg (show ¬ (false = true) by decide)] at H
                  obtain rfl := Option.some.inj H
                  have p258 : 0 ≤ (x63_4 : Int) := of_decide_eq_true (by first | (with_reducible assumption) | assumption)
                  have q258 : x63_4 < (((rd_T43 l0_1 x20_2).f1).length : Int) := of_decide_eq_true (by first | (with_reducible assumption) | assumption)
                  obtain ⟨ad258, A258_0, c258_0, e258, hx258_0, hx258_1, hx258_2, hx258_3, hx258_4, hx258_5, hl258_0, hi258_0⟩ := at_T47 HR249_1.out x63_4 p258 q258
                  cases e258
                  replace hx258_0 := (HB.out.cell (World.block_lt_of_cell? w _ hx258_0)).trans hx258_0
                  replace hx258_1 := (HB.out.cell (World.block_lt_of_cell? w _ hx258_1)).trans hx258_1
                  replace hx258_2 := (HB.out.cell (World.block_lt_of_cell? w _ hx258_2)).trans hx258_2
                  replace hx258_3 := (HB.out.cell (World.block_lt_of_cell? w _ hx258_3)).trans hx258_3
                  replace hx258_4 := (HB.out.cell (World.block_lt_of_cell? w _ hx258_4)).trans hx258_4
                  replace hx258_5 := (HB.out.cell (World.block_lt_of_cell? w _ hx258_5)).trans hx258_5
                  have HR258_0 := Aside0.mk hi258_0; have HC258_0 := Aside0.mk hl258_0; clear hi258_0 hl258_0
                  replace p258 := eq_true p258
                  replace q258 := eq_true q258
                  try go_wp2_with (first | ((with_reducible refine gate_dst (N := 6) rfl ?_); (try (refine gate_guard (by rfl) ?_; dsimp only)); refine box_event ?hg (N := 6) ?hd (cs := #[.slice none 0 0, .int .i64 0, .int .i64 0, .int .i64 0, .int .i64 0, .int .i64 0]) (t := 47) ?hr ?_; (case hd => rfl); (case hg => rfl); (case hr => first | (go_simp; done) | (go_simp; rfl)); intro gb259 hg w74 hbox hb; have n_ := an (blk_below (blk_nw BK247.out) hb) (an (blk_below (blk_nw BK250.out) hb) (an (below_step (by exact bel0) hb) (an (hbox) (an ((by rw [hg]; exact (below_size (by exact bel0)) : w.heap.size ≤ gb259)) (an ((by rw [hg]; exact (below_size (by exact bel0)) : w.heap.size ≤ gb259)) (an ((by rw [hg]; exact Nat.ne_of_lt (blk_lt (blk_nw BK247.out)) : gb247 ≠ gb259)) (an ((by rw [hg]; exact Nat.ne_of_gt (blk_lt (blk_nw BK247.out)) : gb259 ≠ gb247)) (an ((by rw [hg]; exact Nat.ne_of_lt (blk_lt (blk_nw BK250.out)) : gb250 ≠ gb259)) (an ((by rw [hg]; exact Nat.ne_of_gt (blk_lt (blk_nw BK250.out)) : gb259 ≠ gb250)) (trivial)))))))))); clear BK247 BK250 HB; obtain ⟨BK247, BK250, HB, BK259, GW259, GE259, NB247_259, NB259_247, NB250_259, NB259_250, -⟩ := n_; clear hb hbox hg; have hnb75 := NB259_247.out; have hnc75 := NB247_259.out; have hnb76 := NB259_250.out; have hnc76 := NB250_259.out; obtain ⟨hcz77_0, hcz77_1, hcz77_2, hcz77_3, hcz77_4, hcz77_5⟩ := blkz6 BK259.out; have hfz77_0 := blkf BK259.out))
                  have n0_ : Aside0 (((((((w74.setCell ⟨gb259, 0, none⟩ (.slice A258_0 ((rd_T47 ((rd_T43 l0_1 x20_2).f1) x63_4).f0).length c258_0)).setCell ⟨gb259, 1, none⟩ (.int .i64 ((rd_T47 ((rd_T43 l0_1 x20_2).f1) x63_4).f1))).setCell ⟨gb259, 2, none⟩ (.int .i64 ((rd_T47 ((rd_T43 l0_1 x20_2).f1) x63_4).f2))).setCell ⟨gb259, 3, none⟩ (.int .i64 ((rd_T47 ((rd_T43 l0_1 x20_2).f1) x63_4).f3))).setCell ⟨gb259, 4, none⟩ (.int .i64 ((rd_T47 ((rd_T43 l0_1 x20_2).f1) x63_4).f4))).setCell ⟨gb259, 5, none⟩ (.int .i64 ((rd_T47 ((rd_T43 l0_1 x20_2).f1) x63_4).f5))).heap[gb247]? = some (.cells #[.slice A0_0 l0_0.length c0_0, .slice (some ad249) l0_1.length c0_1] 30 (0, 0))) := ⟨by exact blk_kb BK247.out NB247_259.out⟩
                  have n1_ : Aside0 (((((((w74.setCell ⟨gb259, 0, none⟩ (.slice A258_0 ((rd_T47 ((rd_T43 l0_1 x20_2).f1) x63_4).f0).length c258_0)).setCell ⟨gb259, 1, none⟩ (.int .i64 ((rd_T47 ((rd_T43 l0_1 x20_2).f1) x63_4).f1))).setCell ⟨gb259, 2, none⟩ (.int .i64 ((rd_T47 ((rd_T43 l0_1 x20_2).f1) x63_4).f2))).setCell ⟨gb259, 3, none⟩ (.int .i64 ((rd_T47 ((rd_T43 l0_1 x20_2).f1) x63_4).f3))).setCell ⟨gb259, 4, none⟩ (.int .i64 ((rd_T47 ((rd_T43 l0_1 x20_2).f1) x63_4).f4))).setCell ⟨gb259, 5, none⟩ (.int .i64 ((rd_T47 ((rd_T43 l0_1 x20_2).f1) x63_4).f5))).heap[gb250]? = some (.cells #[.slice A249_0 ((rd_T43 l0_1 x20_2).f0).length c249_0, .slice (some ad258) ((rd_T43 l0_1 x20_2).f1).length c249_1] 43 (0, 0))) := ⟨by exact blk_kb BK250.out NB250_259.out⟩
                  have n2_ : Aside0 (((((((w74.setCell ⟨gb259, 0, none⟩ (.slice A258_0 ((rd_T47 ((rd_T43 l0_1 x20_2).f1) x63_4).f0).length c258_0)).setCell ⟨gb259, 1, none⟩ (.int .i64 ((rd_T47 ((rd_T43 l0_1 x20_2).f1) x63_4).f1))).setCell ⟨gb259, 2, none⟩ (.int .i64 ((rd_T47 ((rd_T43 l0_1 x20_2).f1) x63_4).f2))).setCell ⟨gb259, 3, none⟩ (.int .i64 ((rd_T47 ((rd_T43 l0_1 x20_2).f1) x63_4).f3))).setCell ⟨gb259, 4, none⟩ (.int .i64 ((rd_T47 ((rd_T43 l0_1 x20_2).f1) x63_4).f4))).setCell ⟨gb259, 5, none⟩ (.int .i64 ((rd_T47 ((rd_T43 l0_1 x20_2).f1) x63_4).f5))).heap[gb259]? = some (.cells #[.slice A258_0 ((rd_T47 ((rd_T43 l0_1 x20_2).f1) x63_4).f0).length c258_0, .int .i64 ((rd_T47 ((rd_T43 l0_1 x20_2).f1) x63_4).f1), .int .i64 ((rd_T47 ((rd_T43 l0_1 x20_2).f1) x63_4).f2), .int .i64 ((rd_T47 ((rd_T43 l0_1 x20_2).f1) x63_4).f3), .int .i64 ((rd_T47 ((rd_T43 l0_1 x20_2).f1) x63_4).f4), .int .i64 ((rd_T47 ((rd_T43 l0_1 x20_2).f1) x63_4).f5)] 47 (0, 0))) := ⟨by (with_reducible repeat (first | refine blk_drewN ?_ _ | refine blk_drew ?_ | refine blk_alloc ?_ _)); exact blk_fill6 BK259.out⟩
                  have n3_ : Aside0 (Below w.heap.size w ((((((w74.setCell ⟨gb259, 0, none⟩ (.slice A258_0 ((rd_T47 ((rd_T43 l0_1 x20_2).f1) x63_4).f0).length c258_0)).setCell ⟨gb259, 1, none⟩ (.int .i64 ((rd_T47 ((rd_T43 l0_1 x20_2).f1) x63_4).f1))).setCell ⟨gb259, 2, none⟩ (.int .i64 ((rd_T47 ((rd_T43 l0_1 x20_2).f1) x63_4).f2))).setCell ⟨gb259, 3, none⟩ (.int .i64 ((rd_T47 ((rd_T43 l0_1 x20_2).f1) x63_4).f3))).setCell ⟨gb259, 4, none⟩ (.int .i64 ((rd_T47 ((rd_T43 l0_1 x20_2).f1) x63_4).f4))).setCell ⟨gb259, 5, none⟩ (.int .i64 ((rd_T47 ((rd_T43 l0_1 x20_2).f1) x63_4).f5)))) := ⟨by exact bel0⟩
                  (try clear BK247); (try clear BK250); (try clear BK259); (try clear HB)
                  generalize ((((((w74.setCell ⟨gb259, 0, none⟩ (.slice A258_0 ((rd_T47 ((rd_T43 l0_1 x20_2).f1) x63_4).f0).length c258_0)).setCell ⟨gb259, 1, none⟩ (.int .i64 ((rd_T47 ((rd_T43 l0_1 x20_2).f1) x63_4).f1))).setCell ⟨gb259, 2, none⟩ (.int .i64 ((rd_T47 ((rd_T43 l0_1 x20_2).f1) x63_4).f2))).setCell ⟨gb259, 3, none⟩ (.int .i64 ((rd_T47 ((rd_T43 l0_1 x20_2).f1) x63_4).f3))).setCell ⟨gb259, 4, none⟩ (.int .i64 ((rd_T47 ((rd_T43 l0_1 x20_2).f1) x63_4).f4))).setCell ⟨gb259, 5, none⟩ (.int .i64 ((rd_T47 ((rd_T43 l0_1 x20_2).f1) x63_4).f5))) = w78 at n0_ n1_ n2_ n3_ ⊢
                  have BK247 := n0_
                  have BK250 := n1_
                  have BK259 := n2_
                  have HB := n3_
                  clear n0_ n1_ n2_ n3_
                  have n_ := an (blk_drew BK247.out) (an (blk_drew BK250.out) (an (blk_drew BK259.out) (an (below_drew1 HB.out) (trivial))))
                  clear BK247 BK250 BK259 HB
                  obtain ⟨BK247, BK250, BK259, HB, -⟩ := n_
                  refine start_ (n := 20) (S := fun w' => w'.cell? ⟨gb259, 0, none⟩ = some (.slice A258_0 ((rd_T47 ((rd_T43 l0_1 x20_2).f1) x63_4).f0).length c258_0) ∧ w'.cell? ⟨gb259, 1, none⟩ = some (.int .i64 ((rd_T47 ((rd_T43 l0_1 x20_2).f1) x63_4).f1)) ∧ w'.cell? ⟨gb259, 2, none⟩ = some (.int .i64 ((rd_T47 ((rd_T43 l0_1 x20_2).f1) x63_4).f2)) ∧ w'.cell? ⟨gb259, 3, none⟩ = some (.int .i64 ((rd_T47 ((rd_T43 l0_1 x20_2).f1) x63_4).f3)) ∧ w'.cell? ⟨gb259, 4, none⟩ = some (.int .i64 ((rd_T47 ((rd_T43 l0_1 x20_2).f1) x63_4).f4)) ∧ w'.cell? ⟨gb259, 5, none⟩ = some (.int .i64 ((rd_T47 ((rd_T43 l0_1 x20_2).f1) x63_4).f5))) (ds := []) b6z43_ (by kernel_rfl) rfl rfl ⟨(blk_cell BK259.out 0).trans rfl, (blk_cell BK259.out 1).trans rfl, (blk_cell BK259.out 2).trans rfl, (blk_cell BK259.out 3).trans rfl, (blk_cell BK259.out 4).trans rfl, (blk_cell BK259.out 5).trans rfl⟩ (fun hHeld => ?_); refine with_tabW impl_LocalOk.tab11 impl_LocalOk.bits11 (fun HT_ HW_ => ?_)
                  generalize w78.drew = w79 at BK247 BK250 BK259 HB hHeld ⊢
                  refine take_ (i := 0) (N := some 68) (v := ?_) (a' := ?_) b6z44_ rfl rfl (take_ofW HT_.out HW_.out (by kernel_rfl)) (fun _ _ _ h => h) (Or.inl ⟨by rfl, ?_⟩) hHeld ?_ ?_
                  rotate_left
                  ·rintro w' ⟨s0, s1, s2, s3, s4, s5⟩
                   go_simp
                   with_reducible rfl
                  rotate_left; · simp only [Act.put, List.setIfInBounds_toArray, List.set_cons_zero, List.set_cons_succ, i64_w, i32_w]; rfl
                  refine one_ (i := 1) (N := some 69) b6z45_ rfl rfl (one_of HT_.out (by kernel_rfl)) (by decide) (fun K hK => ?_)
                  refine goes_ Try.func26 (by kernel_rfl) rfl #[.agg #[.slice A258_0 ((rd_T47 ((rd_T43 l0_1 x20_2).f1) x63_4).f0).length c258_0, .int .i64 ((rd_T47 ((rd_T43 l0_1 x20_2).f1) x63_4).f1), .int .i64 ((rd_T47 ((rd_T43 l0_1 x20_2).f1) x63_4).f2), .int .i64 ((rd_T47 ((rd_T43 l0_1 x20_2).f1) x63_4).f3), .int .i64 ((rd_T47 ((rd_T43 l0_1 x20_2).f1) x63_4).f4), .int .i64 ((rd_T47 ((rd_T43 l0_1 x20_2).f1) x63_4).f5)]] (by rfl) rfl rfl (by (try simp only [List.map_toArray, List.map_cons, List.map_nil]); first | done | rfl | (simp only [List.length_drop, List.length_take]; rfl)) ?_
                  with_reducible refine (impl_CheckOk.calls k4 _ _ ((rd_T47 ((rd_T43 l0_1 x20_2).f1) x63_4).f0) ((rd_T47 ((rd_T43 l0_1 x20_2).f1) x63_4).f1) ((rd_T47 ((rd_T43 l0_1 x20_2).f1) x63_4).f2) ((rd_T47 ((rd_T43 l0_1 x20_2).f1) x63_4).f3) ((rd_T47 ((rd_T43 l0_1 x20_2).f1) x63_4).f4) ((rd_T47 ((rd_T43 l0_1 x20_2).f1) x63_4).f5) false _ ?side1 ?side2 A52.out).mono ?_
                  (case side1 => repeat (first | exact (Kd.C_below HR258_0.out HB.out) | (with_reducible refine Kd.C_alloc ?_ _) | (with_reducible refine Kd.C_drewN ?_ _) | (with_reducible refine Kd.C_drew ?_)))
                  (case side2 => exact HC258_0.out)
                  rintro e w80 ⟨rfl, hb⟩
                  refine ⟨_, rfl, ?_⟩
                  have n_ := an (blk_below (blk_nw BK247.out) hb) (an (blk_below (blk_nw BK250.out) hb) (an (blk_below (blk_nw BK259.out) hb) (an (below_step (by exact bel0) hb) (trivial))))
                  clear BK247 BK250 BK259 HB
                  obtain ⟨BK247, BK250, BK259, HB, -⟩ := n_
                  (try clear hb); (try clear hb2); (try clear hk); (try clear hi)
                  refine hK.out _ _ ⟨(blk_cell BK259.out 0).trans rfl, (blk_cell BK259.out 1).trans rfl, (blk_cell BK259.out 2).trans rfl, (blk_cell BK259.out 3).trans rfl, (blk_cell BK259.out 4).trans rfl, (blk_cell BK259.out 5).trans rfl⟩ (fun hHeld => ?_)
                  clear hK K
                  refine norm_ (a' := ?_) ?_ ?_
                  rotate_left
                  ·show Act.put _ (some 69) _ = _
                   simp only [Act.put, List.setIfInBounds_toArray, List.set_cons_zero, List.set_cons_succ, i64_w, i32_w]
                   rfl
                  refine pure_ (i := 2) (N := some 70) (v := ?_) (a' := ?_) b6z46_ rfl rfl (any_of HT_.out (by kernel_rfl)) (fun _ _ _ h => h) (Or.inl ⟨by rfl, ?_⟩) ?_ ?_
                  rotate_left; · intro w'; go_simp; with_reducible rfl
                  rotate_left; · simp only [Act.put, List.setIfInBounds_toArray, List.set_cons_zero, List.set_cons_succ, i64_w, i32_w]; rfl
                  refine pure_ (i := 3) (N := some 71) (v := ?_) (a' := ?_) b6z47_ rfl rfl (any_of HT_.out (by kernel_rfl)) (fun _ _ _ h => h) (Or.inl ⟨by rfl, ?_⟩) ?_ ?_
                  rotate_left; · intro w'; go_simp; with_reducible rfl
                  rotate_left; · simp only [Act.put, List.setIfInBounds_toArray, List.set_cons_zero, List.set_cons_succ, i64_w, i32_w]; rfl
                  refine pure_ (i := 4) (N := some 72) (v := undef) (a' := ?_) b6z48_ rfl rfl (any_of HT_.out (by kernel_rfl)) (fun _ _ _ h => h) (Or.inr ⟨by rfl, rfl⟩) ?_ ?_
                  rotate_left; · simp only [Act.put, List.setIfInBounds_toArray, List.set_cons_zero, List.set_cons_succ, i64_w, i32_w]; rfl
                  refine pure_ (i := 5) (N := some 73) (v := undef) (a' := ?_) b6z49_ rfl rfl (any_of HT_.out (by kernel_rfl)) (fun _ _ _ h => h) (Or.inr ⟨by rfl, rfl⟩) ?_ ?_
                  rotate_left; · simp only [Act.put, List.setIfInBounds_toArray, List.set_cons_zero, List.set_cons_succ, i64_w, i32_w]; rfl
                  refine pure_ (i := 6) (N := some 74) (v := undef) (a' := ?_) b6z50_ rfl rfl (any_of HT_.out (by kernel_rfl)) (fun _ _ _ h => h) (Or.inr ⟨by rfl, rfl⟩) ?_ ?_
                  rotate_left; · simp only [Act.put, List.setIfInBounds_toArray, List.set_cons_zero, List.set_cons_succ, i64_w, i32_w]; rfl
                  refine pure_ (i := 7) (N := some 75) (v := undef) (a' := ?_) b6z51_ rfl rfl (any_of HT_.out (by kernel_rfl)) (fun _ _ _ h => h) (Or.inr ⟨by rfl, rfl⟩) ?_ ?_
                  rotate_left; · simp only [Act.put, List.setIfInBounds_toArray, List.set_cons_zero, List.set_cons_succ, i64_w, i32_w]; rfl
                  refine pure_ (i := 8) (N := some 76) (v := undef) (a' := ?_) b6z64_ rfl rfl (any_of HT_.out (by kernel_rfl)) (fun _ _ _ h => h) (Or.inr ⟨by rfl, rfl⟩) ?_ ?_
                  rotate_left; · simp only [Act.put, List.setIfInBounds_toArray, List.set_cons_zero, List.set_cons_succ, i64_w, i32_w]; rfl
                  refine pure_ (i := 9) (N := some 77) (v := undef) (a' := ?_) b6z65_ rfl rfl (any_of HT_.out (by kernel_rfl)) (fun _ _ _ h => h) (Or.inr ⟨by rfl, rfl⟩) ?_ ?_
                  rotate_left; · simp only [Act.put, List.setIfInBounds_toArray, List.set_cons_zero, List.set_cons_succ, i64_w, i32_w]; rfl
                  refine pure_ (i := 10) (N := some 78) (v := undef) (a' := ?_) b6z66_ rfl rfl (any_of HT_.out (by kernel_rfl)) (fun _ _ _ h => h) (Or.inr ⟨by rfl, rfl⟩) ?_ ?_
                  rotate_left; · simp only [Act.put, List.setIfInBounds_toArray, List.set_cons_zero, List.set_cons_succ, i64_w, i32_w]; rfl
                  refine pure_ (i := 11) (N := some 79) (v := undef) (a' := ?_) b6z67_ rfl rfl (any_of HT_.out (by kernel_rfl)) (fun _ _ _ h => h) (Or.inr ⟨by rfl, rfl⟩) ?_ ?_
                  rotate_left; · simp only [Act.put, List.setIfInBounds_toArray, List.set_cons_zero, List.set_cons_succ, i64_w, i32_w]; rfl
                  refine pure_ (i := 12) (N := some 80) (v := undef) (a' := ?_) b6z68_ rfl rfl (any_of HT_.out (by kernel_rfl)) (fun _ _ _ h => h) (Or.inr ⟨by rfl, rfl⟩) ?_ ?_
                  rotate_left; · simp only [Act.put, List.setIfInBounds_toArray, List.set_cons_zero, List.set_cons_succ, i64_w, i32_w]; rfl
                  refine pure_ (i := 13) (N := some 81) (v := undef) (a' := ?_) b6z69_ rfl rfl (any_of HT_.out (by kernel_rfl)) (fun _ _ _ h => h) (Or.inr ⟨by rfl, rfl⟩) ?_ ?_
                  rotate_left; · simp only [Act.put, List.setIfInBounds_toArray, List.set_cons_zero, List.set_cons_succ, i64_w, i32_w]; rfl
                  refine pure_ (i := 14) (N := some 82) (v := undef) (a' := ?_) b6z58_ rfl rfl (any_of HT_.out (by kernel_rfl)) (fun _ _ _ h => h) (Or.inr ⟨by rfl, rfl⟩) ?_ ?_
                  rotate_left; · simp only [Act.put, List.setIfInBounds_toArray, List.set_cons_zero, List.set_cons_succ, i64_w, i32_w]; rfl
                  refine pure_ (i := 15) (N := some 83) (v := undef) (a' := ?_) b6z59_ rfl rfl (any_of HT_.out (by kernel_rfl)) (fun _ _ _ h => h) (Or.inr ⟨by rfl, rfl⟩) ?_ ?_
                  rotate_left; · simp only [Act.put, List.setIfInBounds_toArray, List.set_cons_zero, List.set_cons_succ, i64_w, i32_w]; rfl
                  refine pure_ (i := 16) (N := some 84) (v := undef) (a' := ?_) b6z60_ rfl rfl (any_of HT_.out (by kernel_rfl)) (fun _ _ _ h => h) (Or.inr ⟨by rfl, rfl⟩) ?_ ?_
                  rotate_left; · simp only [Act.put, List.setIfInBounds_toArray, List.set_cons_zero, List.set_cons_succ, i64_w, i32_w]; rfl
                  refine pure_ (i := 17) (N := some 85) (v := undef) (a' := ?_) b6z61_ rfl rfl (any_of HT_.out (by kernel_rfl)) (fun _ _ _ h => h) (Or.inr ⟨by rfl, rfl⟩) ?_ ?_
                  rotate_left; · simp only [Act.put, List.setIfInBounds_toArray, List.set_cons_zero, List.set_cons_succ, i64_w, i32_w]; rfl
                  refine pure_ (i := 18) (N := some 86) (v := undef) (a' := ?_) b6z62_ rfl rfl (any_of HT_.out (by kernel_rfl)) (fun _ _ _ h => h) (Or.inr ⟨by rfl, rfl⟩) ?_ ?_
                  rotate_left; · simp only [Act.put, List.setIfInBounds_toArray, List.set_cons_zero, List.set_cons_succ, i64_w, i32_w]; rfl
                  refine pure_ (i := 19) (N := some 87) (v := ?_) (a' := ?_) b6z63_ rfl rfl (any_of HT_.out (by kernel_rfl)) (fun _ _ _ h => h) (Or.inl ⟨by rfl, ?_⟩) ?_ ?_
                  rotate_left; · intro w'; go_simp; with_reducible rfl
                  rotate_left; · simp only [Act.put, List.setIfInBounds_toArray, List.set_cons_zero, List.set_cons_succ, i64_w, i32_w]; rfl
                  refine done_ (done_of HT_.out (by kernel_rfl)) ?_
                  try go_wp2
                  go_ret
                  exact ⟨by first | rfl | (simp [errW_none, errW_some] <;> rfl) | (simp [*, errW_none, errW_some] <;> rfl), by exact bel0⟩
                ·rw [if_neg c51] at H
                 exact absurd H (by simp)
               ·rw [if_neg c50] at H
                exact absurd H (by simp)
              ·rw [if_neg c49] at H
               have c49b0 : decide (x63_4 < (((rd_T43 l0_1 x20_2).f1).length : Int)) = false := decide_eq_false c49
               clear c49; (try simp only [c49b0])
               have H' := Aside0.mk H
               clear H
               go_wp2
               go_roundg k4
               case measure => have := HJ1.out; have := HK2.out; have := HJ12.out; have := HK4.out; omega
               case rel => exact ⟨(wrap64 (x20_2 + 1)), (by first | rfl | (simp; done) | (simp [*]; done)), H', ⟨by have := HJ1.out; have := HK2.out; have := HJ12.out; have := HK4.out; omega⟩, ⟨by exact blk_nw BK247.out⟩, ⟨by exact bel0⟩⟩
        ·rw [if_neg c12] at H
         exact absurd H (by simp)
       ·rw [if_neg c11] at H
        exact absurd H (by simp)
      ·rw [if_neg c10] at H
       have c10b0 : decide (x20_2 < (l0_1.length : Int)) = false := decide_eq_false c10
       clear c10; (try simp only [c10b0])
       obtain rfl := Option.some.inj H
       go_wp2
       go_ret
       exact ⟨by first | rfl | (simp [errW_none, errW_some] <;> rfl) | (simp [*, errW_none, errW_some] <;> rfl), by exact bel0⟩

end Go.Proofs.Ytkeplodbjldaiaa.XFnExactLocalOk
