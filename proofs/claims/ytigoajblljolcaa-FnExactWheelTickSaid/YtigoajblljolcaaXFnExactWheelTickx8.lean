-- Written by this session's own program (xprint.py) over the kit's print.
import Derived.Test.YtigoajblljolcaaXFnExactWheelTickx0
import Derived.Test.YtigoajblljolcaaXFnExactWheelTickx1
import Derived.Test.YtigoajblljolcaaXFnExactWheelTickx2
import Derived.Test.YtigoajblljolcaaXFnExactWheelTickx4
import Derived.Test.YtigoajblljolcaaXFnExactWheelTickx7
namespace Go.Proofs.Ytigoajblljolcaa.XFnExactWheelTick
open Go.RowKit Go.Proofs.YtigoajblljolcaaW.PrintWords Go.Proofs.YtigoajblljolcaaW.PrintLast Go.Proofs.YtigoajblljolcaaW.PrintMore
attribute [local go_sem] max2_int min2_int max_two min_two max_three min_three max_four min_four   -- for this text's walks alone
set_option linter.unusedVariables false
set_option linter.unusedSimpArgs false

/-! ### laws_FnExactWheelTick: function 8 -/
mutual
def laws_FnExactWheelTick.j0 : Nat → Int → List Int → List Int → Bool → Int → List (S170) → Int → List (S133) → Int → List (S133) → Int → List (S133) → Option (Bool)
  | 0, _, _, _, _, _, _, _, _, _, _, _, _ => none
  | k + 1, x1, x7, x10, x45, x234000, x234001, x247000, x247001, x252000, x252001, x260000, x260001 => if x45 = true then (some false) else ((laws_toWheel.f k x234000 x234001).bind fun bt262 => ((laws_eqWheel.f k x252000 x252001 bt262.1 bt262.2).bind fun t266 => (if t266 = true then ((laws_markWheel.f k x252000 x252001 1).bind fun bt267 => (if bt267.1 < 0 then (laws_FnExactWheelTick.j1 k x1 x7 x10 true x234000 x234001 x247000 x247001 x260000 x260001) else ((laws_eqWheel.f k x260000 x260001 x247000 x247001).bind fun t269 => (if t269 = true then ((laws_eqIntS.f k x10 x7).bind fun t270 => (laws_FnExactWheelTick.j1 k x1 x7 x10 (!t270) x234000 x234001 x247000 x247001 x260000 x260001)) else (laws_FnExactWheelTick.j1 k x1 x7 x10 true x234000 x234001 x247000 x247001 x260000 x260001))))) else (some false))))
def laws_FnExactWheelTick.j1 : Nat → Int → List Int → List Int → Bool → Int → List (S170) → Int → List (S133) → Int → List (S133) → Option (Bool)
  | 0, _, _, _, _, _, _, _, _, _, _ => none
  | k + 1, x1, x7, x10, x67, x234000, x234001, x247000, x247001, x260000, x260001 => if x67 = true then (some false) else ((laws_markWheel.f k x260000 x260001 1).bind fun bt271 => ((laws_markIntS.f k x10 bt271.1).bind fun bt273 => ((laws_heldWheel.f k x260000 bt271.2 1).bind fun t275 => (if t275 < 0 then (some false) else ((laws_heldIntS.f k bt273.2 t275).bind fun t276 => (if t276 < 0 then (some false) else (if t276 = bt273.1 then ((laws_toWheel.f k x234000 x234001).bind fun bt277 => ((impl_WheelTick.f k bt277.1 bt277.2 x1).bind fun bt281 => ((laws_eqWheel.f k bt281.1 bt281.2.1 x247000 x247001).bind fun t289 => (if t289 = true then ((laws_eqIntS.f k bt281.2.2 x7).bind fun t290 => (laws_FnExactWheelTick.j2 k bt273.2 bt273.1 (!t290) x260000 bt271.2)) else (laws_FnExactWheelTick.j2 k bt273.2 bt273.1 true x260000 bt271.2))))) else (some false))))))))
def laws_FnExactWheelTick.j2 : Nat → List Int → Int → Bool → Int → List (S133) → Option (Bool)
  | 0, _, _, _, _, _ => none
  | k + 1, x10, x12, x103, x260000, x260001 => if x103 = true then (some false) else ((laws_heldWheel.f k x260000 x260001 1).bind fun t291 => (if t291 < 0 then (some false) else ((laws_heldIntS.f k x10 t291).bind fun t292 => (if t292 < 0 then (some false) else (if t292 = x12 then (some true) else (some false))))))
end
def laws_FnExactWheelTick.f (k : Nat) (a0_0 : Int) (l0_1 : List (S170)) (a1 : Int) : Option (Bool) := (laws_szWheel.f a0_0 l0_1 1048576).bind fun t234 => (if t234 < 0 then (some true) else ((laws_toWheel.f k a0_0 l0_1).bind fun bt235 => ((spec_WheelTick.f k bt235.1 bt235.2 a1).bind fun bt239 => ((laws_toWheel.f k a0_0 l0_1).bind fun bt247 => ((impl_WheelTick.f k bt247.1 bt247.2 a1).bind fun bt252 => ((laws_eqWheel.f k bt252.1 bt252.2.1 bt239.1 bt239.2.1).bind fun t260 => (if t260 = true then ((laws_eqIntS.f k bt252.2.2 bt239.2.2).bind fun t261 => (laws_FnExactWheelTick.j0 k a1 bt239.2.2 bt252.2.2 (!t261) a0_0 l0_1 bt239.1 bt239.2.1 bt247.1 bt247.2 bt252.1 bt252.2.1)) else (laws_FnExactWheelTick.j0 k a1 bt239.2.2 bt252.2.2 true a0_0 l0_1 bt239.1 bt239.2.1 bt247.1 bt247.2 bt252.1 bt252.2.1))))))))
theorem laws_FnExactWheelTick.mono_l : ∀ k, (∀ y0 y1 y2 y3 y4 y5 y6 y7 y8 y9 y10 y11, LeO (laws_FnExactWheelTick.j0 k y0 y1 y2 y3 y4 y5 y6 y7 y8 y9 y10 y11) (laws_FnExactWheelTick.j0 (k + 1) y0 y1 y2 y3 y4 y5 y6 y7 y8 y9 y10 y11)) ∧ (∀ y0 y1 y2 y3 y4 y5 y6 y7 y8 y9, LeO (laws_FnExactWheelTick.j1 k y0 y1 y2 y3 y4 y5 y6 y7 y8 y9) (laws_FnExactWheelTick.j1 (k + 1) y0 y1 y2 y3 y4 y5 y6 y7 y8 y9)) ∧ (∀ y0 y1 y2 y3 y4, LeO (laws_FnExactWheelTick.j2 k y0 y1 y2 y3 y4) (laws_FnExactWheelTick.j2 (k + 1) y0 y1 y2 y3 y4))
 | 0 => ⟨fun _ _ _ _ _ _ _ _ _ _ _ _ r h => by simp [laws_FnExactWheelTick.j0] at h, fun _ _ _ _ _ _ _ _ _ _ r h => by simp [laws_FnExactWheelTick.j1] at h, fun _ _ _ _ _ r h => by simp [laws_FnExactWheelTick.j2] at h⟩
 | k + 1 => by
  obtain ⟨ih0, ih1, ih2⟩ := laws_FnExactWheelTick.mono_l k
  refine ⟨?_, ?_, ?_⟩
  ·intro y0 y1 y2 y3 y4 y5 y6 y7 y8 y9 y10 y11
   unfold laws_FnExactWheelTick.j0
   repeat' first
   | (with_reducible exact ih0 _ _ _ _ _ _ _ _ _ _ _ _)
   | (with_reducible exact ih1 _ _ _ _ _ _ _ _ _ _)
   | (with_reducible exact ih2 _ _ _ _ _)
   | (with_reducible exact impl_WheelTick.mono _ _ _ _)
   | (with_reducible exact laws_eqIntS.mono _ _ _)
   | (with_reducible exact laws_eqWheel.mono _ _ _ _ _)
   | (with_reducible exact laws_heldIntS.mono _ _ _)
   | (with_reducible exact laws_heldWheel.mono _ _ _ _)
   | (with_reducible exact laws_markIntS.mono _ _ _)
   | (with_reducible exact laws_markWheel.mono _ _ _ _)
   | (with_reducible exact laws_toWheel.mono _ _ _)
   | (with_reducible exact spec_WheelTick.mono _ _ _ _)
   | (with_reducible exact LeO.refl _)
   | (with_reducible exact LeO.none _)
   | (with_reducible refine LeO.ite ?_ ?_)
   | (with_reducible refine LeO.bind ?_ (fun _ => ?_))
   | exact ih0 _ _ _ _ _ _ _ _ _ _ _ _
   | exact ih1 _ _ _ _ _ _ _ _ _ _
   | exact ih2 _ _ _ _ _
   | exact impl_WheelTick.mono _ _ _ _
   | exact laws_eqIntS.mono _ _ _
   | exact laws_eqWheel.mono _ _ _ _ _
   | exact laws_heldIntS.mono _ _ _
   | exact laws_heldWheel.mono _ _ _ _
   | exact laws_markIntS.mono _ _ _
   | exact laws_markWheel.mono _ _ _ _
   | exact laws_toWheel.mono _ _ _
   | exact spec_WheelTick.mono _ _ _ _
   | exact LeO.none _
   | refine LeO.ite ?_ ?_
   | refine LeO.bind ?_ (fun _ => ?_)
  ·intro y0 y1 y2 y3 y4 y5 y6 y7 y8 y9
   unfold laws_FnExactWheelTick.j1
   repeat' first
   | (with_reducible exact ih0 _ _ _ _ _ _ _ _ _ _ _ _)
   | (with_reducible exact ih1 _ _ _ _ _ _ _ _ _ _)
   | (with_reducible exact ih2 _ _ _ _ _)
   | (with_reducible exact impl_WheelTick.mono _ _ _ _)
   | (with_reducible exact laws_eqIntS.mono _ _ _)
   | (with_reducible exact laws_eqWheel.mono _ _ _ _ _)
   | (with_reducible exact laws_heldIntS.mono _ _ _)
   | (with_reducible exact laws_heldWheel.mono _ _ _ _)
   | (with_reducible exact laws_markIntS.mono _ _ _)
   | (with_reducible exact laws_markWheel.mono _ _ _ _)
   | (with_reducible exact laws_toWheel.mono _ _ _)
   | (with_reducible exact spec_WheelTick.mono _ _ _ _)
   | (with_reducible exact LeO.refl _)
   | (with_reducible exact LeO.none _)
   | (with_reducible refine LeO.ite ?_ ?_)
   | (with_reducible refine LeO.bind ?_ (fun _ => ?_))
   | exact ih0 _ _ _ _ _ _ _ _ _ _ _ _
   | exact ih1 _ _ _ _ _ _ _ _ _ _
   | exact ih2 _ _ _ _ _
   | exact impl_WheelTick.mono _ _ _ _
   | exact laws_eqIntS.mono _ _ _
   | exact laws_eqWheel.mono _ _ _ _ _
   | exact laws_heldIntS.mono _ _ _
   | exact laws_heldWheel.mono _ _ _ _
   | exact laws_markIntS.mono _ _ _
   | exact laws_markWheel.mono _ _ _ _
   | exact laws_toWheel.mono _ _ _
   | exact spec_WheelTick.mono _ _ _ _
   | exact LeO.none _
   | refine LeO.ite ?_ ?_
   | refine LeO.bind ?_ (fun _ => ?_)
  ·intro y0 y1 y2 y3 y4
   unfold laws_FnExactWheelTick.j2
   repeat' first
   | (with_reducible exact ih0 _ _ _ _ _ _ _ _ _ _ _ _)
   | (with_reducible exact ih1 _ _ _ _ _ _ _ _ _ _)
   | (with_reducible exact ih2 _ _ _ _ _)
   | (with_reducible exact impl_WheelTick.mono _ _ _ _)
   | (with_reducible exact laws_eqIntS.mono _ _ _)
   | (with_reducible exact laws_eqWheel.mono _ _ _ _ _)
   | (with_reducible exact laws_heldIntS.mono _ _ _)
   | (with_reducible exact laws_heldWheel.mono _ _ _ _)
   | (with_reducible exact laws_markIntS.mono _ _ _)
   | (with_reducible exact laws_markWheel.mono _ _ _ _)
   | (with_reducible exact laws_toWheel.mono _ _ _)
   | (with_reducible exact spec_WheelTick.mono _ _ _ _)
   | (with_reducible exact LeO.refl _)
   | (with_reducible exact LeO.none _)
   | (with_reducible refine LeO.ite ?_ ?_)
   | (with_reducible refine LeO.bind ?_ (fun _ => ?_))
   | exact ih0 _ _ _ _ _ _ _ _ _ _ _ _
   | exact ih1 _ _ _ _ _ _ _ _ _ _
   | exact ih2 _ _ _ _ _
   | exact impl_WheelTick.mono _ _ _ _
   | exact laws_eqIntS.mono _ _ _
   | exact laws_eqWheel.mono _ _ _ _ _
   | exact laws_heldIntS.mono _ _ _
   | exact laws_heldWheel.mono _ _ _ _
   | exact laws_markIntS.mono _ _ _
   | exact laws_markWheel.mono _ _ _ _
   | exact laws_toWheel.mono _ _ _
   | exact spec_WheelTick.mono _ _ _ _
   | exact LeO.none _
   | refine LeO.ite ?_ ?_
   | refine LeO.bind ?_ (fun _ => ?_)
theorem laws_FnExactWheelTick.mono : ∀ a0 a1 a2 k, LeO (laws_FnExactWheelTick.f k a0 a1 a2) (laws_FnExactWheelTick.f (k + 1) a0 a1 a2) := by
 intro a0 a1 a2 k
 obtain ⟨ih0, ih1, ih2⟩ := laws_FnExactWheelTick.mono_l k
 unfold laws_FnExactWheelTick.f
 repeat' first
   | (with_reducible exact ih0 _ _ _ _ _ _ _ _ _ _ _ _)
   | (with_reducible exact ih1 _ _ _ _ _ _ _ _ _ _)
   | (with_reducible exact ih2 _ _ _ _ _)
   | (with_reducible exact impl_WheelTick.mono _ _ _ _)
   | (with_reducible exact laws_eqIntS.mono _ _ _)
   | (with_reducible exact laws_eqWheel.mono _ _ _ _ _)
   | (with_reducible exact laws_heldIntS.mono _ _ _)
   | (with_reducible exact laws_heldWheel.mono _ _ _ _)
   | (with_reducible exact laws_markIntS.mono _ _ _)
   | (with_reducible exact laws_markWheel.mono _ _ _ _)
   | (with_reducible exact laws_toWheel.mono _ _ _)
   | (with_reducible exact spec_WheelTick.mono _ _ _ _)
   | (with_reducible exact LeO.refl _)
   | (with_reducible exact LeO.none _)
   | (with_reducible refine LeO.ite ?_ ?_)
   | (with_reducible refine LeO.bind ?_ (fun _ => ?_))
   | exact ih0 _ _ _ _ _ _ _ _ _ _ _ _
   | exact ih1 _ _ _ _ _ _ _ _ _ _
   | exact ih2 _ _ _ _ _
   | exact impl_WheelTick.mono _ _ _ _
   | exact laws_eqIntS.mono _ _ _
   | exact laws_eqWheel.mono _ _ _ _ _
   | exact laws_heldIntS.mono _ _ _
   | exact laws_heldWheel.mono _ _ _ _
   | exact laws_markIntS.mono _ _ _
   | exact laws_markWheel.mono _ _ _ _
   | exact laws_toWheel.mono _ _ _
   | exact spec_WheelTick.mono _ _ _ _
   | exact LeO.none _
   | refine LeO.ite ?_ ?_
   | refine LeO.bind ?_ (fun _ => ?_)
set_option maxHeartbeats 8000000 in
set_option maxRecDepth 100000 in
theorem laws_FnExactWheelTick.calls (k : Nat) (a0_0 : Int) (A0_1 : Option Addr) (c0_1 : Nat) (l0_1 : List (S170)) (a1 : Int) (r : Bool) (w : World) (hr0_1 : Kd.C k170 w A0_1 l0_1.length l0_1) (hc0_1 : l0_1.length ≤ c0_1) (h : laws_FnExactWheelTick.f k a0_0 l0_1 a1 = some r) :
  Calls Try.prog 8 #[.agg #[.int .i64 a0_0, .slice A0_1 l0_1.length c0_1], .int .i64 a1] w fun e w' => e = .returned (.bool r) ∧ Below w.heap.size w w' := by
 have hu50 := Try.underlying50
 have hu54 := Try.underlying54
 have HR0_1 := Aside0.mk hr0_1; have HC0_1 := Aside0.mk hc0_1; clear hr0_1 hc0_1
 have HB := Aside0.mk (Below.refl w.heap.size w)
 have H : ((laws_szWheel.f a0_0 l0_1 1048576).bind fun t234 => (if t234 < 0 then (some true) else ((laws_toWheel.f k a0_0 l0_1).bind fun bt235 => ((spec_WheelTick.f k bt235.1 bt235.2 a1).bind fun bt239 => ((laws_toWheel.f k a0_0 l0_1).bind fun bt247 => ((impl_WheelTick.f k bt247.1 bt247.2 a1).bind fun bt252 => ((laws_eqWheel.f k bt252.1 bt252.2.1 bt239.1 bt239.2.1).bind fun t260 => (if t260 = true then ((laws_eqIntS.f k bt252.2.2 bt239.2.2).bind fun t261 => (laws_FnExactWheelTick.j0 k a1 bt239.2.2 bt252.2.2 (!t261) a0_0 l0_1 bt239.1 bt239.2.1 bt247.1 bt247.2 bt252.1 bt252.2.1)) else (laws_FnExactWheelTick.j0 k a1 bt239.2.2 bt252.2.2 true a0_0 l0_1 bt239.1 bt239.2.1 bt247.1 bt247.2 bt252.1 bt252.2.1))))))))) = some r := h
 clear h; replace H := Option.bind_eq_some_iff.mp H; obtain ⟨t234, A30, H⟩ := H; have A3 := Aside0.mk A30; clear A30; go_enter Try.func8, Try.ntmps8
 replace H := Aside0.mk H
 go_wp2_with (first | ((with_reducible refine gate_dst (N := 2) rfl ?_); refine box_event ?hg (N := 2) ?hd (cs := #[.int .i64 a0_0, .slice A0_1 l0_1.length c0_1]) (t := 50) ?hr ?_; (case hd => rfl); (case hg => rfl); (case hr => first | (go_simp; done) | (go_simp; rfl)); intro gb233 hg w4 hbox hb; have n_ := an (below_step (by exact bel0) hb) (an (hbox) (an ((by rw [hg]; exact (below_size (by exact bel0)) : w.heap.size ≤ gb233)) (an ((by rw [hg]; exact (below_size (by exact bel0)) : w.heap.size ≤ gb233)) (trivial)))); clear HB; obtain ⟨HB, BK233, GW233, GE233, -⟩ := n_; clear hb hbox hg; obtain ⟨hcz5_0, hcz5_1⟩ := blkz2 BK233.out; have hfz5_0 := blkf BK233.out) | ((with_reducible refine gate_callee (f := 30) rfl ?_); refine goesL_ (some 18) rfl rfl Try.func30 (by kernel_rfl) rfl #[.agg #[.int .i64 a0_0, .slice A0_1 l0_1.length c0_1], .int .i64 1048576] rfl (by (try simp only [List.map_toArray, List.map_cons, List.map_nil]); first | done | rfl | (simp only [List.length_drop, List.length_take]; rfl)) ?_; (with_reducible refine (laws_szWheel.calls a0_0 _ _ l0_1 1048576 t234 _ ?side1 ?side2 A3.out).mono ?_); (case side1 => repeat (first | exact (Kd.C_below HR0_1.out HB.out) | (with_reducible refine Kd.C_alloc ?_ _) | (with_reducible refine Kd.C_drewN ?_ _) | (with_reducible refine Kd.C_drew ?_))); (case side2 => exact HC0_1.out); rintro e w6 ⟨rfl, hb⟩; refine ⟨_, rfl, ?_⟩; have n_ := an (blk_below (blk_nw BK233.out) hb) (an (below_step (by exact bel0) hb) (trivial)); clear BK233 HB; obtain ⟨BK233, HB, -⟩ := n_; (try clear hb); (try clear hb2); (try clear hk); (try clear hi); refine Stop.out ?_))
 refine Stop.mk ?_
 replace H := H.out
 by_cases c7 : t234 < 0
 ·rw [if_pos c7] at H; have c7b0 : decide (t234 < 0) = true := decide_eq_true c7; clear c7; (try simp only [c7b0])
  obtain rfl := Option.some.inj H
  go_wp2
  go_ret
  exact ⟨by first | rfl | (simp [errW_none, errW_some] <;> rfl) | (simp [*, errW_none, errW_some] <;> rfl), by exact bel0⟩
 ·rw [if_neg c7] at H; have c7b0 : decide (t234 < 0) = false := decide_eq_false c7; clear c7; (try simp only [c7b0]); replace H := Option.bind_eq_some_iff.mp H
  obtain ⟨⟨t235, t236⟩, A80, H⟩ := H
  replace H : ((spec_WheelTick.f k t235 t236 a1).bind fun bt239 => ((laws_toWheel.f k a0_0 l0_1).bind fun bt247 => ((impl_WheelTick.f k bt247.1 bt247.2 a1).bind fun bt252 => ((laws_eqWheel.f k bt252.1 bt252.2.1 bt239.1 bt239.2.1).bind fun t260 => (if t260 = true then ((laws_eqIntS.f k bt252.2.2 bt239.2.2).bind fun t261 => (laws_FnExactWheelTick.j0 k a1 bt239.2.2 bt252.2.2 (!t261) a0_0 l0_1 bt239.1 bt239.2.1 bt247.1 bt247.2 bt252.1 bt252.2.1)) else (laws_FnExactWheelTick.j0 k a1 bt239.2.2 bt252.2.2 true a0_0 l0_1 bt239.1 bt239.2.1 bt247.1 bt247.2 bt252.1 bt252.2.1)))))) = some r := H
  have A8 := Aside0.mk A80; clear A80; replace H := Option.bind_eq_some_iff.mp H
  obtain ⟨⟨t239, t240, t243⟩, A90, H⟩ := H
  replace H : ((laws_toWheel.f k a0_0 l0_1).bind fun bt247 => ((impl_WheelTick.f k bt247.1 bt247.2 a1).bind fun bt252 => ((laws_eqWheel.f k bt252.1 bt252.2.1 t239 t240).bind fun t260 => (if t260 = true then ((laws_eqIntS.f k bt252.2.2 t243).bind fun t261 => (laws_FnExactWheelTick.j0 k a1 t243 bt252.2.2 (!t261) a0_0 l0_1 t239 t240 bt247.1 bt247.2 bt252.1 bt252.2.1)) else (laws_FnExactWheelTick.j0 k a1 t243 bt252.2.2 true a0_0 l0_1 t239 t240 bt247.1 bt247.2 bt252.1 bt252.2.1))))) = some r := H
  have A9 := Aside0.mk A90; clear A90; replace H := Option.bind_eq_some_iff.mp H
  obtain ⟨⟨t247, t248⟩, A100, H⟩ := H
  replace H : ((impl_WheelTick.f k t247 t248 a1).bind fun bt252 => ((laws_eqWheel.f k bt252.1 bt252.2.1 t239 t240).bind fun t260 => (if t260 = true then ((laws_eqIntS.f k bt252.2.2 t243).bind fun t261 => (laws_FnExactWheelTick.j0 k a1 t243 bt252.2.2 (!t261) a0_0 l0_1 t239 t240 t247 t248 bt252.1 bt252.2.1)) else (laws_FnExactWheelTick.j0 k a1 t243 bt252.2.2 true a0_0 l0_1 t239 t240 t247 t248 bt252.1 bt252.2.1)))) = some r := H
  have A10 := Aside0.mk A100; clear A100; replace H := Option.bind_eq_some_iff.mp H
  obtain ⟨⟨t252, t253, t256⟩, A110, H⟩ := H
  replace H : ((laws_eqWheel.f k t252 t253 t239 t240).bind fun t260 => (if t260 = true then ((laws_eqIntS.f k t256 t243).bind fun t261 => (laws_FnExactWheelTick.j0 k a1 t243 t256 (!t261) a0_0 l0_1 t239 t240 t247 t248 t252 t253)) else (laws_FnExactWheelTick.j0 k a1 t243 t256 true a0_0 l0_1 t239 t240 t247 t248 t252 t253))) = some r := H
  have A11 := Aside0.mk A110; clear A110; have HC12 := Aside0.mk H; clear H; obtain ⟨hcz13_0, hcz13_1⟩ := blkz2 BK233.out; have hfz13_0 := blkf BK233.out
  go_upto_region 8 with (first | ((with_reducible refine gate_callee (f := 32) rfl ?_); refine goesL_ (some 23) rfl rfl Try.func32 (by kernel_rfl) rfl #[.agg #[.int .i64 a0_0, .slice A0_1 l0_1.length c0_1]] rfl (by (try simp only [List.map_toArray, List.map_cons, List.map_nil]); first | done | rfl | (simp only [List.length_drop, List.length_take]; rfl)) ?_; (with_reducible refine (laws_toWheel.calls k a0_0 _ _ l0_1 t235 t236 _ ?side1 ?side2 A8.out).mono ?_); (case side1 => repeat (first | exact (Kd.C_below HR0_1.out HB.out) | (with_reducible refine Kd.C_alloc ?_ _) | (with_reducible refine Kd.C_drewN ?_ _) | (with_reducible refine Kd.C_drew ?_))); (case side2 => exact HC0_1.out); rintro e w14 ⟨v237, rfl, ho0, hb⟩; refine ⟨_, rfl, ?_⟩; have n_ := an (Kd.R_lower ho0 (below_size (by exact bel0))) (an (blk_below (blk_nw BK233.out) hb) (an (below_step (by exact bel0) hb) (trivial))); clear BK233 HB; obtain ⟨HO238, BK233, HB, -⟩ := n_; (try clear hb); (try clear hb2); (try clear hk); (try clear hi); (try clear ho0); obtain ⟨Ao15, co15, eo15⟩ := Kd.R_slice HO238.out; subst eo15) | ((with_reducible refine gate_callee (f := 41) rfl ?_); refine goesL_ (some 25) rfl rfl Try.func41 (by kernel_rfl) rfl #[.agg #[.int .i64 t235, .slice Ao15 t236.length co15], .int .i64 a1] rfl (by (try simp only [List.map_toArray, List.map_cons, List.map_nil]); first | done | rfl | (simp only [List.length_drop, List.length_take]; rfl)) ?_; (with_reducible refine (spec_WheelTick.calls k t235 _ _ t236 a1 t239 t240 t243 _ ?side1 ?side2 A9.out).mono ?_); (case side1 => repeat (first | exact (Kd.R_reads' HO238.out).2.2 | (with_reducible refine Kd.C_alloc ?_ _) | (with_reducible refine Kd.C_drewN ?_ _) | (with_reducible refine Kd.C_drew ?_))); (case side2 => exact (Kd.R_reads' HO238.out).2.1); rintro e w16 ⟨v241, v244, rfl, ho0, ho1, hb⟩; refine ⟨_, rfl, ?_⟩; have n_ := an (Kd.R_elder' (by exact Kd.R_nw HO238.out) (Kd.R_base ho0) hb) (an (Kd.R_lower (Kd.R_new' ho0 (Kd.R_lt (by exact Kd.R_nw HO238.out))) (below_size (by exact bel0))) (an (Kd.R_lower ho1 (below_size (by exact bel0))) (an (blk_below (blk_nw BK233.out) hb) (an (below_step (by exact bel0) hb) (trivial))))); clear HO238 BK233 HB; obtain ⟨HO238, HO242, HO245, BK233, HB, -⟩ := n_; (try clear hb); (try clear hb2); (try clear hk); (try clear hi); (try clear ho0); (try clear ho1)) | ((with_reducible refine gate_dst (N := 6) rfl ?_); refine box_event ?hg (N := 6) ?hd (cs := #[.int .i64 0, .slice none 0 0]) (t := 54) ?hr ?_; (case hd => rfl); (case hg => rfl); (case hr => first | (go_simp; done) | (go_simp; rfl)); intro gb246 hg w17 hbox hb; have n_ := an (Kd.R_below (by exact Kd.R_nw HO238.out) hb) (an (Kd.R_below (by exact Kd.R_nw HO242.out) hb) (an (Kd.R_below (by exact Kd.R_nw HO245.out) hb) (an (blk_below (blk_nw BK233.out) hb) (an (below_step (by exact bel0) hb) (an (hbox) (an ((by rw [hg]; exact (below_size (by exact bel0)) : w.heap.size ≤ gb246)) (an ((by rw [hg]; exact (below_size (by exact bel0)) : w.heap.size ≤ gb246)) (an ((by rw [hg]; exact Nat.ne_of_lt (blk_lt (blk_nw BK233.out)) : gb233 ≠ gb246)) (an ((by rw [hg]; exact Nat.ne_of_gt (blk_lt (blk_nw BK233.out)) : gb246 ≠ gb233)) (trivial)))))))))); clear HO238 HO242 HO245 BK233 HB; obtain ⟨HO238, HO242, HO245, BK233, HB, BK246, GW246, GE246, NB233_246, NB246_233, -⟩ := n_; clear hb hbox hg; have hnb18 := NB246_233.out; have hnc18 := NB233_246.out; obtain ⟨hcz19_0, hcz19_1⟩ := blkz2 BK246.out; have hfz19_0 := blkf BK246.out; obtain ⟨Ao20, co20, eo20⟩ := Kd.R_slice HO242.out; subst eo20; obtain ⟨hcz21_0, hcz21_1⟩ := blkz2 BK233.out; have hfz21_0 := blkf BK233.out) | ((with_reducible refine gate_callee (f := 32) rfl ?_); refine goesL_ (some 29) rfl rfl Try.func32 (by kernel_rfl) rfl #[.agg #[.int .i64 a0_0, .slice A0_1 l0_1.length c0_1]] rfl (by (try simp only [List.map_toArray, List.map_cons, List.map_nil]); first | done | rfl | (simp only [List.length_drop, List.length_take]; rfl)) ?_; (with_reducible refine (laws_toWheel.calls k a0_0 _ _ l0_1 t247 t248 _ ?side1 ?side2 A10.out).mono ?_); (case side1 => exact Kd.C_below HR0_1.out (by exact bel0)); (case side2 => exact HC0_1.out); rintro e w22 ⟨v249, rfl, ho0, hb⟩; refine ⟨_, rfl, ?_⟩; have n_ := an (Kd.R_elder' (by exact (Kd.R_farN HO238.out BK246.out)) (Kd.R_base ho0) hb) (an (Kd.R_elder' (by exact (Kd.R_farN HO242.out BK246.out)) (Kd.R_base ho0) hb) (an (Kd.R_below (by exact (Kd.R_farN HO245.out BK246.out)) hb) (an (Kd.R_lower (Kd.R_new' (Kd.R_new' ho0 (Kd.R_lt (by exact (Kd.R_farN HO238.out BK246.out)))) (Kd.R_lt (by exact (Kd.R_farN HO242.out BK246.out)))) (below_size (by exact bel0))) (an (blk_below (blk_kb BK233.out NB233_246.out) hb) (an (blk_below (g := gb246) (o := .cells #[.int .i64 t239, .slice Ao20 t240.length co20] 54 (0, 0)) (by (with_reducible repeat (first | refine blk_drewN ?_ _ | refine blk_drew ?_ | refine blk_alloc ?_ _)); exact blk_fill2 BK246.out) hb) (an (below_step (by exact bel0) hb) (trivial))))))); clear HO238 HO242 HO245 BK233 BK246 HB; obtain ⟨HO238, HO242, HO245, HO250, BK233, BK246, HB, -⟩ := n_; (try clear hb); (try clear hb2); (try clear hk); (try clear hi); (try clear ho0)) | ((with_reducible refine gate_dst (N := 8) rfl ?_); refine box_event ?hg (N := 8) ?hd (cs := #[.int .i64 0, .slice none 0 0]) (t := 54) ?hr ?_; (case hd => rfl); (case hg => rfl); (case hr => first | (go_simp; done) | (go_simp; rfl)); intro gb251 hg w23 hbox hb; have n_ := an (Kd.R_below (by exact Kd.R_nw HO238.out) hb) (an (Kd.R_below (by exact Kd.R_nw HO242.out) hb) (an (Kd.R_below (by exact Kd.R_nw HO245.out) hb) (an (Kd.R_below (by exact Kd.R_nw HO250.out) hb) (an (blk_below (blk_nw BK233.out) hb) (an (blk_below (blk_nw BK246.out) hb) (an (below_step (by exact bel0) hb) (an (hbox) (an ((by rw [hg]; exact (below_size (by exact bel0)) : w.heap.size ≤ gb251)) (an ((by rw [hg]; exact (below_size (by exact bel0)) : w.heap.size ≤ gb251)) (an ((by rw [hg]; exact Nat.ne_of_lt (blk_lt (blk_nw BK233.out)) : gb233 ≠ gb251)) (an ((by rw [hg]; exact Nat.ne_of_gt (blk_lt (blk_nw BK233.out)) : gb251 ≠ gb233)) (an ((by rw [hg]; exact Nat.ne_of_lt (blk_lt (blk_nw BK246.out)) : gb246 ≠ gb251)) (an ((by rw [hg]; exact Nat.ne_of_gt (blk_lt (blk_nw BK246.out)) : gb251 ≠ gb246)) (trivial)))))))))))))); clear HO238 HO242 HO245 HO250 BK233 BK246 HB; obtain ⟨HO238, HO242, HO245, HO250, BK233, BK246, HB, BK251, GW251, GE251, NB233_251, NB251_233, NB246_251, NB251_246, -⟩ := n_; clear hb hbox hg; have hnb24 := NB251_233.out; have hnc24 := NB233_251.out; have hnb25 := NB251_246.out; have hnc25 := NB246_251.out; obtain ⟨hcz26_0, hcz26_1⟩ := blkz2 BK251.out; have hfz26_0 := blkf BK251.out; obtain ⟨Ao27, co27, eo27⟩ := Kd.R_slice HO250.out; subst eo27) | ((with_reducible refine gate_callee (f := 42) rfl ?_); refine goesL_ (some 33) rfl rfl Try.func42 (by kernel_rfl) rfl #[.agg #[.int .i64 t247, .slice Ao27 t248.length co27], .int .i64 a1] rfl (by (try simp only [List.map_toArray, List.map_cons, List.map_nil]); first | done | rfl | (simp only [List.length_drop, List.length_take]; rfl)) ?_; (with_reducible refine (impl_WheelTick.calls k t247 _ _ t248 a1 t252 t253 t256 _ ?side1 ?side2 A11.out).mono ?_); (case side1 => refine (Kd.R_reads' (e := 133) (base := w.heap.size) (ok := fun k_ => ((True ∧ some k_ ≠ (.slice Ao15 t236.length co15 : Value).ownBlock) ∧ some k_ ≠ (.slice Ao20 t240.length co20 : Value).ownBlock)) (n := t248.length) (c := co27) ?_).2.2; exact (by exact (Kd.R_farN HO250.out BK251.out))); (case side2 => exact (Kd.R_reads' HO250.out).2.1); rintro e w28 ⟨v254, v257, rfl, ho0, ho1, hb⟩; refine ⟨_, rfl, ?_⟩; have n_ := an (Kd.R_elder' (by exact (Kd.R_farN HO238.out BK251.out)) (Kd.Q_base ho0) hb) (an (Kd.R_elder' (by exact (Kd.R_farN HO242.out BK251.out)) (Kd.Q_base ho0) hb) (an (Kd.R_elder' (by exact (Kd.R_farN HO245.out BK251.out)) (Kd.R_base ho1) hb) (an (Kd.R_elder' (by exact (Kd.R_farN HO250.out BK251.out)) (Kd.Q_base ho0) hb) (an (Kd.Q_lower (Kd.Q_new' (Kd.Q_new' (Kd.Q_new' ho0 (Kd.R_lt (by exact (Kd.R_farN HO238.out BK251.out)))) (Kd.R_lt (by exact (Kd.R_farN HO242.out BK251.out)))) (Kd.R_lt (by exact (Kd.R_farN HO250.out BK251.out)))) (below_size (by exact bel0))) (an (Kd.R_lower (Kd.R_new' ho1 (Kd.R_lt (by exact (Kd.R_farN HO245.out BK251.out)))) (below_size (by exact bel0))) (an (blk_below (blk_kb BK233.out NB233_251.out) hb) (an (blk_below (blk_kb BK246.out NB246_251.out) hb) (an (blk_below (g := gb251) (o := .cells #[.int .i64 t247, .slice Ao27 t248.length co27] 54 (0, 0)) (by (with_reducible repeat (first | refine blk_drewN ?_ _ | refine blk_drew ?_ | refine blk_alloc ?_ _)); exact blk_fill2 BK251.out) hb) (an (below_step (by exact bel0) hb) (trivial)))))))))); clear HO238 HO242 HO245 HO250 BK233 BK246 BK251 HB; obtain ⟨HO238, HO242, HO245, HO250, HO255, HO258, BK233, BK246, BK251, HB, -⟩ := n_; (try clear hb); (try clear hb2); (try clear hk); (try clear hi); (try clear ho0); (try clear ho1)) | ((with_reducible refine gate_dst (N := 9) rfl ?_); refine box_event ?hg (N := 9) ?hd (cs := #[.int .i64 0, .slice none 0 0]) (t := 54) ?hr ?_; (case hd => rfl); (case hg => rfl); (case hr => first | (go_simp; done) | (go_simp; rfl)); intro gb259 hg w29 hbox hb; have n_ := an (Kd.R_below (by exact Kd.R_nw HO238.out) hb) (an (Kd.R_below (by exact Kd.R_nw HO242.out) hb) (an (Kd.R_below (by exact Kd.R_nw HO245.out) hb) (an (Kd.R_below (by exact Kd.R_nw HO250.out) hb) (an (Kd.Q_below (by exact Kd.Q_nw HO255.out) hb) (an (Kd.R_below (by exact Kd.R_nw HO258.out) hb) (an (blk_below (blk_nw BK233.out) hb) (an (blk_below (blk_nw BK246.out) hb) (an (blk_below (blk_nw BK251.out) hb) (an (below_step (by exact bel0) hb) (an (hbox) (an ((by rw [hg]; exact (below_size (by exact bel0)) : w.heap.size ≤ gb259)) (an ((by rw [hg]; exact (below_size (by exact bel0)) : w.heap.size ≤ gb259)) (an ((by rw [hg]; exact Nat.ne_of_lt (blk_lt (blk_nw BK233.out)) : gb233 ≠ gb259)) (an ((by rw [hg]; exact Nat.ne_of_gt (blk_lt (blk_nw BK233.out)) : gb259 ≠ gb233)) (an ((by rw [hg]; exact Nat.ne_of_lt (blk_lt (blk_nw BK246.out)) : gb246 ≠ gb259)) (an ((by rw [hg]; exact Nat.ne_of_gt (blk_lt (blk_nw BK246.out)) : gb259 ≠ gb246)) (an ((by rw [hg]; exact Nat.ne_of_lt (blk_lt (blk_nw BK251.out)) : gb251 ≠ gb259)) (an ((by rw [hg]; exact Nat.ne_of_gt (blk_lt (blk_nw BK251.out)) : gb259 ≠ gb251)) (trivial))))))))))))))))))); clear HO238 HO242 HO245 HO250 HO255 HO258 BK233 BK246 BK251 HB; obtain ⟨HO238, HO242, HO245, HO250, HO255, HO258, BK233, BK246, BK251, HB, BK259, GW259, GE259, NB233_259, NB259_233, NB246_259, NB259_246, NB251_259, NB259_251, -⟩ := n_; clear hb hbox hg; have hnb30 := NB259_233.out; have hnc30 := NB233_259.out; have hnb31 := NB259_246.out; have hnc31 := NB246_259.out; have hnb32 := NB259_251.out; have hnc32 := NB251_259.out; obtain ⟨hcz33_0, hcz33_1⟩ := blkz2 BK259.out; have hfz33_0 := blkf BK259.out; obtain ⟨Ao34, co34, eo34, _⟩ := Kd.Q_slice HO255.out; subst eo34))
  (try simp only [Act.put, List.setIfInBounds_toArray, List.set_cons_zero, List.set_cons_succ])
  go_cut [45] (fun v45 wc => ∃ (kq : Nat) (x45_11 : Bool), v45 = .bool x45_11 ∧ Aside0 (laws_FnExactWheelTick.j0 kq a1 t243 t256 x45_11 a0_0 l0_1 t239 t240 t247 t248 t252 t253 = some r) ∧ Aside0 (kq ≤ k) ∧ Aside0 (Kd.R (Kd.int .i64) 3 wc w.heap.size (fun k_ => some k_ ≠ (v257 : Value).ownBlock) v244 t243) ∧ Aside0 (Kd.R (Kd.int .i64) 3 wc w.heap.size (fun k_ => some k_ ≠ (v244 : Value).ownBlock) v257 t256) ∧ Aside0 (Kd.Q k133 133 wc w.heap.size (fun k_ => some k_ ≠ ((.slice Ao27 t248.length co27) : Value).ownBlock ∧ some k_ ≠ ((.slice Ao34 t253.length co34) : Value).ownBlock) (.slice Ao20 t240.length co20) t240) ∧ Aside0 (Kd.Q k133 133 wc w.heap.size (fun k_ => some k_ ≠ ((.slice Ao20 t240.length co20) : Value).ownBlock ∧ some k_ ≠ ((.slice Ao34 t253.length co34) : Value).ownBlock) (.slice Ao27 t248.length co27) t248) ∧ Aside0 (Kd.Q k133 133 wc w.heap.size (fun k_ => some k_ ≠ ((.slice Ao20 t240.length co20) : Value).ownBlock ∧ some k_ ≠ ((.slice Ao27 t248.length co27) : Value).ownBlock) (.slice Ao34 t253.length co34) t253) ∧ Aside0 (wc.heap[gb233]? = some (.cells #[.int .i64 a0_0, (.slice A0_1 l0_1.length c0_1)] 50 (0, 0))) ∧ Aside0 (wc.heap[gb246]? = some (.cells #[.int .i64 t239, (.slice Ao20 t240.length co20)] 54 (0, 0))) ∧ Aside0 (wc.heap[gb251]? = some (.cells #[.int .i64 t247, (.slice Ao27 t248.length co27)] 54 (0, 0))) ∧ Aside0 (wc.heap[gb259]? = some (.cells #[.int .i64 t252, (.slice Ao34 t253.length co34)] 54 (0, 0))) ∧ Aside0 (Below w.heap.size w wc))
  case first =>
   have H := HC12.out; clear HC12; replace H := Option.bind_eq_some_iff.mp H; obtain ⟨t260, A350, H⟩ := H; have A35 := Aside0.mk A350; clear A350; have hnb36 := NB259_233.out; have hnc36 := NB233_259.out; have hnb37 := NB259_246.out; have hnc37 := NB246_259.out; have hnb38 := NB259_251.out; have hnc38 := NB251_259.out; obtain ⟨hcz39_0, hcz39_1⟩ := blkz2 BK259.out; have hfz39_0 := blkf BK259.out; have hnb40 := NB246_233.out; have hnc40 := NB233_246.out; have hnb41 := NB246_251.out; have hnc41 := NB251_246.out; obtain ⟨hcz42_0, hcz42_1⟩ := blkz2 BK246.out; have hfz42_0 := blkf BK246.out
   replace H := Aside0.mk H
   go_wp2_with (first | ((with_reducible refine gate_callee (f := 34) rfl ?_); refine goesL_ (some 38) rfl rfl Try.func34 (by kernel_rfl) rfl #[.agg #[.int .i64 t252, .slice Ao34 t253.length co34], .agg #[.int .i64 t239, .slice Ao20 t240.length co20]] rfl (by (try simp only [List.map_toArray, List.map_cons, List.map_nil]); first | done | rfl | (simp only [List.length_drop, List.length_take]; rfl)) ?_; (with_reducible refine (laws_eqWheel.calls k t252 _ _ t253 t239 _ _ t240 t260 _ ?side1 ?side2 ?side3 ?side4 A35.out).mono ?_); (case side1 => refine (Kd.Q_reads' (e := 133) (base := w.heap.size) (ok := fun k_ => (((True ∧ some k_ ≠ (.slice Ao15 t236.length co15 : Value).ownBlock) ∧ some k_ ≠ (.slice Ao20 t240.length co20 : Value).ownBlock) ∧ some k_ ≠ (.slice Ao27 t248.length co27 : Value).ownBlock)) (n := t253.length) (c := co34) ?_).2.2; exact (by exact (Kd.Q_farN HO255.out BK259.out))); (case side2 => exact (Kd.Q_reads' HO255.out).2.1); (case side3 => refine (Kd.R_reads' (e := 133) (base := w.heap.size) (ok := fun k_ => (((True ∧ some k_ ≠ (.slice Ao15 t236.length co15 : Value).ownBlock) ∧ some k_ ≠ (.slice Ao27 t248.length co27 : Value).ownBlock) ∧ some k_ ≠ (.slice Ao34 t253.length co34 : Value).ownBlock)) (n := t240.length) (c := co20) ?_).2.2; exact (by exact (Kd.R_farN HO242.out BK259.out))); (case side4 => exact (Kd.R_reads' HO242.out).2.1); rintro e w43 ⟨rfl, hb⟩; refine ⟨_, rfl, ?_⟩; have n_ := an (Kd.R_below (by exact (Kd.R_farN HO238.out BK259.out)) hb) (an (Kd.R_below (by exact (Kd.R_farN HO242.out BK259.out)) hb) (an (Kd.R_below (by exact (Kd.R_farN HO245.out BK259.out)) hb) (an (Kd.R_below (by exact (Kd.R_farN HO250.out BK259.out)) hb) (an (Kd.Q_below (by exact (Kd.Q_farN HO255.out BK259.out)) hb) (an (Kd.R_below (by exact (Kd.R_farN HO258.out BK259.out)) hb) (an (blk_below (blk_kb BK233.out NB233_259.out) hb) (an (blk_below (blk_kb BK246.out NB246_259.out) hb) (an (blk_below (blk_kb BK251.out NB251_259.out) hb) (an (blk_below (g := gb259) (o := .cells #[.int .i64 t252, .slice Ao34 t253.length co34] 54 (0, 0)) (by (with_reducible repeat (first | refine blk_drewN ?_ _ | refine blk_drew ?_ | refine blk_alloc ?_ _)); exact blk_fill2 BK259.out) hb) (an (below_step (by exact bel0) hb) (trivial))))))))))); clear HO238 HO242 HO245 HO250 HO255 HO258 BK233 BK246 BK251 BK259 HB; obtain ⟨HO238, HO242, HO245, HO250, HO255, HO258, BK233, BK246, BK251, BK259, HB, -⟩ := n_; (try clear hb); (try clear hb2); (try clear hk); (try clear hi); refine Stop.out ?_))
   refine Stop.mk ?_
   replace H := H.out
   by_cases c44 : t260 = true
   ·subst c44; rw [if_pos rfl] at H; replace H := Option.bind_eq_some_iff.mp H; obtain ⟨t261, A450, H⟩ := H; have A45 := Aside0.mk A450; clear A450
    have H' := Aside0.mk H
    clear H
    obtain ⟨Ao46, co46, eo46⟩ := Kd.R_slice HO258.out
    subst eo46
    obtain ⟨Ao47, co47, eo47⟩ := Kd.R_slice HO245.out
    subst eo47
    go_wp2_with (first | (go_at_call 43; (with_reducible refine (laws_eqIntS.calls k _ _ t256 _ _ t243 t261 _ ?side1 ?side2 ?side3 ?side4 A45.out).mono ?_); (case side1 => repeat (first | exact (Kd.R_reads' HO258.out).2.2 | (with_reducible refine Kd.C_alloc ?_ _) | (with_reducible refine Kd.C_drewN ?_ _) | (with_reducible refine Kd.C_drew ?_))); (case side2 => exact (Kd.R_reads' HO258.out).2.1); (case side3 => repeat (first | exact (Kd.R_reads' HO245.out).2.2 | (with_reducible refine Kd.C_alloc ?_ _) | (with_reducible refine Kd.C_drewN ?_ _) | (with_reducible refine Kd.C_drew ?_))); (case side4 => exact (Kd.R_reads' HO245.out).2.1); rintro e w' ⟨rfl, ⟨nd, rfl⟩⟩))
    go_meet
    case rel => exact ⟨_, (!t261), (by first | rfl | (simp; done) | (simp [*]; done)), H', ⟨by first | omega | exact Nat.le_refl _⟩, ⟨by exact Kd.R_nw (Kd.R_mono HO245.out (fun _ hk => hk.2))⟩, ⟨by exact Kd.R_nw (Kd.R_mono HO258.out (fun _ hk => hk.2))⟩, ⟨Kd.Q_of_R (by exact Kd.R_nw (Kd.R_mono HO242.out (fun _ hk => ⟨hk.1.2, hk.2⟩)))⟩, ⟨Kd.Q_of_R (by exact Kd.R_nw (Kd.R_mono HO250.out (fun _ hk => ⟨hk.1.2, hk.2⟩)))⟩, ⟨by exact Kd.Q_nw (Kd.Q_mono HO255.out (fun _ hk => ⟨hk.1.2, hk.2⟩))⟩, ⟨by exact blk_nw BK233.out⟩, ⟨by exact blk_nw BK246.out⟩, ⟨by exact blk_nw BK251.out⟩, ⟨by exact blk_nw BK259.out⟩, ⟨by exact bel0⟩⟩
   ·replace c44 := Bool.eq_false_iff.mpr c44
    subst c44
    rw [if_neg (show ¬ (false = true) by decide)] at H
    have H' := Aside0.mk H
    clear H
    go_wp2
    go_meet
    case rel => exact ⟨_, (true), (by first | rfl | (simp; done) | (simp [*]; done)), H', ⟨by first | omega | exact Nat.le_refl _⟩, ⟨by exact Kd.R_nw (Kd.R_mono HO245.out (fun _ hk => hk.2))⟩, ⟨by exact Kd.R_nw (Kd.R_mono HO258.out (fun _ hk => hk.2))⟩, ⟨Kd.Q_of_R (by exact Kd.R_nw (Kd.R_mono HO242.out (fun _ hk => ⟨hk.1.2, hk.2⟩)))⟩, ⟨Kd.Q_of_R (by exact Kd.R_nw (Kd.R_mono HO250.out (fun _ hk => ⟨hk.1.2, hk.2⟩)))⟩, ⟨by exact Kd.Q_nw (Kd.Q_mono HO255.out (fun _ hk => ⟨hk.1.2, hk.2⟩))⟩, ⟨by exact blk_nw BK233.out⟩, ⟨by exact blk_nw BK246.out⟩, ⟨by exact blk_nw BK251.out⟩, ⟨by exact blk_nw BK259.out⟩, ⟨by exact bel0⟩⟩
  case rest =>
   clear HC12; try clear c1; try clear c2; try clear p2; try clear c3; try clear c4; try clear c7; try clear c7b0; try clear c8; try clear c18; try clear c24; try clear c25; try clear c30; try clear c31; try clear c32; try clear c34; try clear c36; try clear c37; try clear c38; try clear c40; try clear c41; try clear c42; try clear c44; try clear hcz13_0; try clear hcz13_1; try clear hcz19_0; try clear hcz19_1; try clear hcz21_0; try clear hcz21_1; try clear hcz26_0; try clear hcz26_1; try clear hcz33_0; try clear hcz33_1; try clear hcz39_0; try clear hcz39_1; try clear hcz42_0; try clear hcz42_1; try clear hcz5_0; try clear hcz5_1; try clear hfz13_0; try clear hfz13_1; try clear hfz19_0; try clear hfz19_1; try clear hfz21_0; try clear hfz21_1; try clear hfz26_0; try clear hfz26_1; try clear hfz33_0; try clear hfz33_1; try clear hfz39_0; try clear hfz39_1; try clear hfz42_0; try clear hfz42_1; try clear hfz5_0; try clear hfz5_1
   obtain ⟨kq, x45_11, rfl, HA, HJ11, HO_7, HO_10, HO_247001, HO_252001, HO_260001, BK233, BK246, BK251, BK259, HB⟩ := hcut
   cases kq with
   | zero => exact absurd HA.out (by simp [laws_FnExactWheelTick.j0])
   | succ kj11 =>
    have H := HA.out; clear HA
    simp only [laws_FnExactWheelTick.j0] at H
    by_cases c48 : x45_11 = true
    ·subst c48; rw [if_pos rfl] at H
     obtain rfl := Option.some.inj H
     go_wp2
     go_ret
     exact ⟨by first | rfl | (simp [errW_none, errW_some] <;> rfl) | (simp [*, errW_none, errW_some] <;> rfl), by exact bel0⟩
    ·replace c48 := Bool.eq_false_iff.mpr c48
     subst c48
     rw [if_neg (show ¬ (false = true) by decide)] at H
     replace H := Option.bind_eq_some_iff.mp H
     obtain ⟨⟨t262, t263⟩, A490, H⟩ := H
     replace H : ((laws_eqWheel.f kj11 t247 t248 t262 t263).bind fun t266 => (if t266 = true then ((laws_markWheel.f kj11 t247 t248 1).bind fun bt267 => (if bt267.1 < 0 then (laws_FnExactWheelTick.j1 kj11 a1 t243 t256 true a0_0 l0_1 t239 t240 t252 t253) else ((laws_eqWheel.f kj11 t252 t253 t239 t240).bind fun t269 => (if t269 = true then ((laws_eqIntS.f kj11 t256 t243).bind fun t270 => (laws_FnExactWheelTick.j1 kj11 a1 t243 t256 (!t270) a0_0 l0_1 t239 t240 t252 t253)) else (laws_FnExactWheelTick.j1 kj11 a1 t243 t256 true a0_0 l0_1 t239 t240 t252 t253))))) else (some false))) = some r := H
     have A49 := Aside0.mk A490; clear A490; replace H := Option.bind_eq_some_iff.mp H; obtain ⟨t266, A500, H⟩ := H; have A50 := Aside0.mk A500; clear A500
     replace H := Aside0.mk H
     try go_wp2
     have n_ := an (Kd.R_drew HO_7.out) (an (Kd.R_drew HO_10.out) (an (Kd.Q_drew HO_247001.out) (an (Kd.Q_drew HO_252001.out) (an (Kd.Q_drew HO_260001.out) (an (blk_drew BK233.out) (an (blk_drew BK246.out) (an (blk_drew BK251.out) (an (blk_drew BK259.out) (an (below_drew1 HB.out) (trivial))))))))))
     clear HO_7 HO_10 HO_247001 HO_252001 HO_260001 BK233 BK246 BK251 BK259 HB
     obtain ⟨HO_7, HO_10, HO_247001, HO_252001, HO_260001, BK233, BK246, BK251, BK259, HB, -⟩ := n_
     refine start_ (n := 5) (S := fun w' => w'.cell? ⟨gb251, 0, none⟩ = some (.int .i64 t247) ∧ w'.cell? ⟨gb251, 1, none⟩ = some (.slice Ao27 t248.length co27) ∧ w'.cell? ⟨gb233, 0, none⟩ = some (.int .i64 a0_0) ∧ w'.cell? ⟨gb233, 1, none⟩ = some (.slice A0_1 l0_1.length c0_1)) (ds := []) #[false, false, false, false, false] (by kernel_rfl) rfl rfl ⟨(blk_cell BK251.out 0).trans rfl, (blk_cell BK251.out 1).trans rfl, (blk_cell BK233.out 0).trans rfl, (blk_cell BK233.out 1).trans rfl⟩ (fun hHeld => ?_)
     generalize wc.drew = w51 at HO_7 HO_10 HO_247001 HO_252001 HO_260001 BK233 BK246 BK251 BK259 HB hHeld ⊢
     refine take_ (i := 0) (N := some 46) (v := ?_) (a' := ?_) #[true, false, false, false, false] rfl rfl (by kernel_rfl) (fun _ _ _ h => h) (Or.inl ⟨by rfl, ?_⟩) hHeld ?_ ?_
     rotate_left
     ·rintro w' ⟨s0, s1, s2, s3⟩
      go_simp
      with_reducible rfl
     rotate_left
     ·simp only [Act.put, List.setIfInBounds_toArray, List.set_cons_zero, List.set_cons_succ, i64_w, i32_w]
      rfl
     refine take_ (i := 1) (N := some 47) (v := ?_) (a' := ?_) #[true, true, false, false, false] rfl rfl (by kernel_rfl) (fun _ _ _ h => h) (Or.inl ⟨by rfl, ?_⟩) hHeld ?_ ?_
     rotate_left
     ·rintro w' ⟨s0, s1, s2, s3⟩
      go_simp
      with_reducible rfl
     rotate_left
     ·simp only [Act.put, List.setIfInBounds_toArray, List.set_cons_zero, List.set_cons_succ, i64_w, i32_w]
      rfl
     refine one_ (i := 2) (N := some 48) #[true, true, true, false, false] rfl rfl (by kernel_rfl) (by decide) (fun K hK => ?_)
     refine goes_ Try.func32 (by kernel_rfl) rfl #[.agg #[.int .i64 a0_0, .slice A0_1 l0_1.length c0_1]] (by rfl) rfl rfl (by (try simp only [List.map_toArray, List.map_cons, List.map_nil]); first | done | rfl | (simp only [List.length_drop, List.length_take]; rfl)) ?_
     with_reducible refine (laws_toWheel.calls kj11 a0_0 _ _ l0_1 t262 t263 _ ?side1 ?side2 A49.out).mono ?_
     (case side1 => repeat (first | exact (Kd.C_below HR0_1.out HB.out) | (with_reducible refine Kd.C_alloc ?_ _) | (with_reducible refine Kd.C_drewN ?_ _) | (with_reducible refine Kd.C_drew ?_)))
     (case side2 => exact HC0_1.out)
     rintro e w52 ⟨v264, rfl, ho0, hb⟩
     refine ⟨_, rfl, ?_⟩
     have n_ := an (Kd.R_below (by exact Kd.R_nw HO_7.out) hb) (an (Kd.R_below (by exact Kd.R_nw HO_10.out) hb) (an (Kd.Q_elder' (by exact Kd.Q_nw HO_247001.out) (Kd.R_base ho0) hb) (an (Kd.Q_elder' (by exact Kd.Q_nw HO_252001.out) (Kd.R_base ho0) hb) (an (Kd.Q_elder' (by exact Kd.Q_nw HO_260001.out) (Kd.R_base ho0) hb) (an (Kd.R_lower (Kd.R_new' (Kd.R_new' (Kd.R_new' ho0 (Kd.Q_lt (by exact Kd.Q_nw HO_247001.out))) (Kd.Q_lt (by exact Kd.Q_nw HO_252001.out))) (Kd.Q_lt (by exact Kd.Q_nw HO_260001.out))) (below_size (by exact bel0))) (an (blk_below (blk_nw BK233.out) hb) (an (blk_below (blk_nw BK246.out) hb) (an (blk_below (blk_nw BK251.out) hb) (an (blk_below (blk_nw BK259.out) hb) (an (below_step (by exact bel0) hb) (trivial)))))))))))
     clear HO_7 HO_10 HO_247001 HO_252001 HO_260001 BK233 BK246 BK251 BK259 HB
     obtain ⟨HO_7, HO_10, HO_247001, HO_252001, HO_260001, HO265, BK233, BK246, BK251, BK259, HB, -⟩ := n_
     (try clear hb); (try clear hb2); (try clear hk); (try clear hi); (try clear ho0)
     obtain ⟨Ao53, co53, eo53⟩ := Kd.R_slice HO265.out
     (first | subst eo53 | (injection eo53 with f1_ f2_ f3_; have f4_ := f1_.symm; have f5_ := f3_.symm; clear f1_ f2_ f3_; subst f4_; subst f5_))
     refine hK.out _ _ ⟨(blk_cell BK251.out 0).trans rfl, (blk_cell BK251.out 1).trans rfl, (blk_cell BK233.out 0).trans rfl, (blk_cell BK233.out 1).trans rfl⟩ (fun hHeld => ?_)
     clear hK K
     refine norm_ (a' := ?_) ?_ ?_
     rotate_left
     ·show Act.put _ (some 48) _ = _
      simp only [Act.put, List.setIfInBounds_toArray, List.set_cons_zero, List.set_cons_succ, i64_w, i32_w]
      rfl
     refine one_ (i := 3) (N := some 49) #[true, true, true, true, false] rfl rfl (by kernel_rfl) (by decide) (fun K hK => ?_)
     refine goes_ Try.func34 (by kernel_rfl) rfl #[.agg #[.int .i64 t247, .slice Ao27 t248.length co27], .agg #[.int .i64 t262, .slice Ao53 t263.length co53]] (by rfl) rfl rfl (by (try simp only [List.map_toArray, List.map_cons, List.map_nil]); first | done | rfl | (simp only [List.length_drop, List.length_take]; rfl)) ?_
     with_reducible refine (laws_eqWheel.calls kj11 t247 _ _ t248 t262 _ _ t263 t266 _ ?side1 ?side2 ?side3 ?side4 A50.out).mono ?_
     (case side1 => repeat (first | exact (Kd.Q_reads' HO_252001.out).2.2 | (with_reducible refine Kd.C_alloc ?_ _) | (with_reducible refine Kd.C_drewN ?_ _) | (with_reducible refine Kd.C_drew ?_)))
     (case side2 => exact (Kd.Q_reads' HO_252001.out).2.1)
     (case side3 => repeat (first | exact (Kd.R_reads' HO265.out).2.2 | (with_reducible refine Kd.C_alloc ?_ _) | (with_reducible refine Kd.C_drewN ?_ _) | (with_reducible refine Kd.C_drew ?_)))
     (case side4 => exact (Kd.R_reads' HO265.out).2.1)
     rintro e w54 ⟨rfl, hb⟩
     refine ⟨_, rfl, ?_⟩
     have n_ := an (Kd.R_below (by exact Kd.R_nw HO_7.out) hb) (an (Kd.R_below (by exact Kd.R_nw HO_10.out) hb) (an (Kd.Q_below (by exact Kd.Q_nw HO_247001.out) hb) (an (Kd.Q_below (by exact Kd.Q_nw HO_252001.out) hb) (an (Kd.Q_below (by exact Kd.Q_nw HO_260001.out) hb) (an (Kd.R_below (by exact Kd.R_nw HO265.out) hb) (an (blk_below (blk_nw BK233.out) hb) (an (blk_below (blk_nw BK246.out) hb) (an (blk_below (blk_nw BK251.out) hb) (an (blk_below (blk_nw BK259.out) hb) (an (below_step (by exact bel0) hb) (trivial)))))))))))
     clear HO_7 HO_10 HO_247001 HO_252001 HO_260001 HO265 BK233 BK246 BK251 BK259 HB
     obtain ⟨HO_7, HO_10, HO_247001, HO_252001, HO_260001, HO265, BK233, BK246, BK251, BK259, HB, -⟩ := n_
     (try clear hb); (try clear hb2); (try clear hk); (try clear hi)
     refine hK.out _ _ ⟨(blk_cell BK251.out 0).trans rfl, (blk_cell BK251.out 1).trans rfl, (blk_cell BK233.out 0).trans rfl, (blk_cell BK233.out 1).trans rfl⟩ (fun hHeld => ?_)
     clear hK K
     refine norm_ (a' := ?_) ?_ ?_
     rotate_left
     ·show Act.put _ (some 49) _ = _
      simp only [Act.put, List.setIfInBounds_toArray, List.set_cons_zero, List.set_cons_succ, i64_w, i32_w]
      rfl
     refine pure_ (i := 4) (N := some 50) (v := ?_) (a' := ?_) #[true, true, true, true, true] rfl rfl (by kernel_rfl) (fun _ _ _ h => h) (Or.inl ⟨by rfl, ?_⟩) ?_ ?_
     rotate_left
     ·intro w'
      go_simp
      with_reducible rfl
     rotate_left
     ·simp only [Act.put, List.setIfInBounds_toArray, List.set_cons_zero, List.set_cons_succ, i64_w, i32_w]
      rfl
     refine done_ (by kernel_rfl) ?_
     replace H := H.out
     by_cases c55 : t266 = true
     ·subst c55; rw [if_pos rfl] at H; replace H := Option.bind_eq_some_iff.mp H
      obtain ⟨⟨t267, t268⟩, A560, H⟩ := H
      replace H : (if t267 < 0 then (laws_FnExactWheelTick.j1 kj11 a1 t243 t256 true a0_0 l0_1 t239 t240 t252 t253) else ((laws_eqWheel.f kj11 t252 t253 t239 t240).bind fun t269 => (if t269 = true then ((laws_eqIntS.f kj11 t256 t243).bind fun t270 => (laws_FnExactWheelTick.j1 kj11 a1 t243 t256 (!t270) a0_0 l0_1 t239 t240 t252 t253)) else (laws_FnExactWheelTick.j1 kj11 a1 t243 t256 true a0_0 l0_1 t239 t240 t252 t253)))) = some r := H
      have A56 := Aside0.mk A560; clear A560; have HC57 := Aside0.mk H; clear H; have hnb58 := NB251_233.out; have hnc58 := NB233_251.out; have hnb59 := NB251_246.out; have hnc59 := NB246_251.out; have hnb60 := NB251_259.out; have hnc60 := NB259_251.out; obtain ⟨hcz61_0, hcz61_1⟩ := blkz2 BK251.out; have hfz61_0 := blkf BK251.out
      go_upto_region 14 with (first | ((with_reducible refine gate_callee (f := 35) rfl ?_); refine goesL_ (some 53) rfl rfl Try.func35 (by kernel_rfl) rfl #[.agg #[.int .i64 t247, .slice Ao27 t248.length co27], .int .i64 1] rfl (by (try simp only [List.map_toArray, List.map_cons, List.map_nil]); first | done | rfl | (simp only [List.length_drop, List.length_take]; rfl)) ?_; (with_reducible refine (laws_markWheel.calls kj11 t247 (fun k_ => some k_ = (.slice Ao27 t248.length co27 : Value).ownBlock) (.slice Ao27 t248.length co27) t248 1 t267 t268 w _ ?side1 ?side2 A56.out).mono ?_); (case side1 => exact bel0); (case side2 => exact Kd.Q_tight rfl HO_252001.out); rintro e w62 ⟨rfl, hy0, hb, hkp⟩; refine ⟨_, rfl, ?_⟩; have n_ := an (Kd.R_mono (ok' := fun k_ => some k_ ≠ (v257 : Value).ownBlock) (Kd.R_keptB ((Kd.R_apart' HO_7.out (Kd.Q_typed HO_252001.out) (by decide))) hkp (fun k_ hk_ hs_ => (hk_.2) hs_)) (fun k_ hk_ => hk_.1.1)) (an (Kd.R_mono (ok' := fun k_ => some k_ ≠ (v244 : Value).ownBlock) (Kd.R_keptB ((Kd.R_apart' HO_10.out (Kd.Q_typed HO_252001.out) (by decide))) hkp (fun k_ hk_ hs_ => (hk_.2) hs_)) (fun k_ hk_ => hk_.1.1)) (an (Kd.Q_mono (ok' := fun k_ => some k_ ≠ (.slice Ao27 t248.length co27 : Value).ownBlock ∧ some k_ ≠ (.slice Ao34 t253.length co34 : Value).ownBlock ∧ some k_ ≠ (.slice Ao53 t263.length co53 : Value).ownBlock) (Kd.Q_keptB (HO_247001.out) hkp (fun k_ hk_ hs_ => (hk_.1.1) hs_)) (fun k_ hk_ => ⟨hk_.1.1.1, hk_.1.1.2, hk_.1.2⟩)) (an (Kd.Q_mono (Kd.Q_tight rfl hy0) (fun k_ e_ => HO_252001.out.1 k_ e_.symm)) (an (Kd.Q_mono (ok' := fun k_ => some k_ ≠ (.slice Ao20 t240.length co20 : Value).ownBlock ∧ some k_ ≠ (.slice Ao27 t248.length co27 : Value).ownBlock ∧ some k_ ≠ (.slice Ao53 t263.length co53 : Value).ownBlock) (Kd.Q_keptB (HO_260001.out) hkp (fun k_ hk_ hs_ => (hk_.1.2) hs_)) (fun k_ hk_ => ⟨hk_.1.1.1, hk_.1.1.2, hk_.1.2⟩)) (an (blk_kept (by exact blk_nw BK233.out) hkp (fun hs_ => (fun e_ => (Kd.Q_ne HO_252001.out BK233.out (by decide)) e_) hs_)) (an (blk_kept (by exact blk_nw BK246.out) hkp (fun hs_ => (fun e_ => (Kd.Q_ne HO_252001.out BK246.out (by decide)) e_) hs_)) (an (blk_kept (by exact blk_nw BK251.out) hkp (fun hs_ => (fun e_ => (Kd.Q_ne HO_252001.out BK251.out (by decide)) e_) hs_)) (an (blk_kept (by exact blk_nw BK259.out) hkp (fun hs_ => (fun e_ => (Kd.Q_ne HO_252001.out BK259.out (by decide)) e_) hs_)) (an (Kd.R_mono (ok' := fun k_ => some k_ ≠ (.slice Ao20 t240.length co20 : Value).ownBlock ∧ some k_ ≠ (.slice Ao27 t248.length co27 : Value).ownBlock ∧ some k_ ≠ (.slice Ao34 t253.length co34 : Value).ownBlock) (Kd.R_keptB (HO265.out) hkp (fun k_ hk_ hs_ => (hk_.1.2) hs_)) (fun k_ hk_ => ⟨hk_.1.1.1.2, hk_.1.1.2, hk_.1.2⟩)) (an (hb) (trivial))))))))))); clear HO_7 HO_10 HO_247001 HO_252001 HO_260001 BK233 BK246 BK251 BK259 HO265 HB; obtain ⟨HO_7, HO_10, HO_247001, HO_252001, HO_260001, BK233, BK246, BK251, BK259, HO265, HB, -⟩ := n_; (try clear hb); (try clear hkp); (try clear hy0)))
      (try simp only [Act.put, List.setIfInBounds_toArray, List.set_cons_zero, List.set_cons_succ])
      go_cut [67] (fun v67 wc => ∃ (kq : Nat) (x67_56 : Bool), v67 = .bool x67_56 ∧ Aside0 (laws_FnExactWheelTick.j1 kq a1 t243 t256 x67_56 a0_0 l0_1 t239 t240 t252 t253 = some r) ∧ Aside0 (kq ≤ kj11) ∧ Aside0 (Kd.R (Kd.int .i64) 3 wc w.heap.size (fun k_ => some k_ ≠ (v257 : Value).ownBlock) v244 t243) ∧ Aside0 (Kd.R (Kd.int .i64) 3 wc w.heap.size (fun k_ => some k_ ≠ (v244 : Value).ownBlock) v257 t256) ∧ Aside0 (Kd.Q k133 133 wc w.heap.size (fun k_ => some k_ ≠ ((.slice Ao27 t248.length co27) : Value).ownBlock ∧ some k_ ≠ ((.slice Ao34 t253.length co34) : Value).ownBlock) (.slice Ao20 t240.length co20) t240) ∧ Aside0 (Kd.Q k133 133 wc w.heap.size (fun k_ => some k_ ≠ ((.slice Ao20 t240.length co20) : Value).ownBlock ∧ some k_ ≠ ((.slice Ao34 t253.length co34) : Value).ownBlock) (.slice Ao27 t248.length co27) t268) ∧ Aside0 (Kd.Q k133 133 wc w.heap.size (fun k_ => some k_ ≠ ((.slice Ao20 t240.length co20) : Value).ownBlock ∧ some k_ ≠ ((.slice Ao27 t248.length co27) : Value).ownBlock) (.slice Ao34 t253.length co34) t253) ∧ Aside0 (wc.heap[gb233]? = some (.cells #[.int .i64 a0_0, (.slice A0_1 l0_1.length c0_1)] 50 (0, 0))) ∧ Aside0 (wc.heap[gb246]? = some (.cells #[.int .i64 t239, (.slice Ao20 t240.length co20)] 54 (0, 0))) ∧ Aside0 (wc.heap[gb251]? = some (.cells #[.int .i64 t247, (.slice Ao27 t248.length co27)] 54 (0, 0))) ∧ Aside0 (wc.heap[gb259]? = some (.cells #[.int .i64 t252, (.slice Ao34 t253.length co34)] 54 (0, 0))) ∧ Aside0 (Below w.heap.size w wc))
      case first =>
       have H := HC57.out; clear HC57
       by_cases c63 : t267 < 0
       ·rw [if_pos c63] at H; have c63b0 : decide (t267 < 0) = true := decide_eq_true c63; clear c63; (try simp only [c63b0])
        (first | rw [c63b0] | (simp only [i64_w, i32_w]; rw [c63b0]) | skip)
        have H' := Aside0.mk H
        clear H
        go_wp2
        go_meet
        case rel => exact ⟨_, (true), (by first | rfl | (simp; done) | (simp [*]; done)), H', ⟨by have := HJ11.out; first | omega | exact Nat.le_refl _⟩, ⟨by exact Kd.R_nw HO_7.out⟩, ⟨by exact Kd.R_nw HO_10.out⟩, ⟨by exact Kd.Q_nw (Kd.Q_mono HO_247001.out (fun _ hk => ⟨hk.1, hk.2.1⟩))⟩, ⟨by exact Kd.Q_nw (Kd.Q_mono HO_252001.out (fun _ hk => ⟨hk.1.1, hk.1.2⟩))⟩, ⟨by exact Kd.Q_nw (Kd.Q_mono HO_260001.out (fun _ hk => ⟨hk.1, hk.2.1⟩))⟩, ⟨by exact blk_nw BK233.out⟩, ⟨by exact blk_nw BK246.out⟩, ⟨by exact blk_nw BK251.out⟩, ⟨by exact blk_nw BK259.out⟩, ⟨by exact bel0⟩⟩
       ·rw [if_neg c63] at H; have c63b0 : decide (t267 < 0) = false := decide_eq_false c63; clear c63; (try simp only [c63b0])
        (first | rw [c63b0] | (simp only [i64_w, i32_w]; rw [c63b0]) | skip)
        replace H := Option.bind_eq_some_iff.mp H; obtain ⟨t269, A640, H⟩ := H; have A64 := Aside0.mk A640; clear A640; have hnb65 := NB259_233.out; have hnc65 := NB233_259.out; have hnb66 := NB259_246.out; have hnc66 := NB246_259.out; have hnb67 := NB259_251.out; have hnc67 := NB251_259.out; obtain ⟨hcz68_0, hcz68_1⟩ := blkz2 BK259.out; have hfz68_0 := blkf BK259.out; have hnb69 := NB246_233.out; have hnc69 := NB233_246.out; have hnb70 := NB246_251.out; have hnc70 := NB251_246.out; obtain ⟨hcz71_0, hcz71_1⟩ := blkz2 BK246.out; have hfz71_0 := blkf BK246.out
        replace H := Aside0.mk H
        go_wp2_with (first | (go_at_call 34; (with_reducible refine (laws_eqWheel.calls kj11 t252 _ _ t253 t239 _ _ t240 t269 _ ?side1 ?side2 ?side3 ?side4 A64.out).mono ?_); (case side1 => repeat (first | exact (Kd.Q_reads' HO_260001.out).2.2 | (with_reducible refine Kd.C_alloc ?_ _) | (with_reducible refine Kd.C_drewN ?_ _) | (with_reducible refine Kd.C_drew ?_))); (case side2 => exact (Kd.Q_reads' HO_260001.out).2.1); (case side3 => repeat (first | exact (Kd.Q_reads' HO_247001.out).2.2 | (with_reducible refine Kd.C_alloc ?_ _) | (with_reducible refine Kd.C_drewN ?_ _) | (with_reducible refine Kd.C_drew ?_))); (case side4 => exact (Kd.Q_reads' HO_247001.out).2.1); rintro e w72 ⟨rfl, hb⟩; have n_ := an (Kd.R_below (by exact Kd.R_nw HO_7.out) hb) (an (Kd.R_below (by exact Kd.R_nw HO_10.out) hb) (an (Kd.Q_below (by exact Kd.Q_nw HO_247001.out) hb) (an (Kd.Q_below (by exact Kd.Q_nw HO_252001.out) hb) (an (Kd.Q_below (by exact Kd.Q_nw HO_260001.out) hb) (an (Kd.R_below (by exact Kd.R_nw HO265.out) hb) (an (blk_below (blk_nw BK233.out) hb) (an (blk_below (blk_nw BK246.out) hb) (an (blk_below (blk_nw BK251.out) hb) (an (blk_below (blk_nw BK259.out) hb) (an (below_step (by exact bel0) hb) (trivial))))))))))); clear HO_7 HO_10 HO_247001 HO_252001 HO_260001 HO265 BK233 BK246 BK251 BK259 HB; obtain ⟨HO_7, HO_10, HO_247001, HO_252001, HO_260001, HO265, BK233, BK246, BK251, BK259, HB, -⟩ := n_; (try clear hb); (try clear hb2); (try clear hk); (try clear hi); refine Stop.out ?_))
        refine Stop.mk ?_
        replace H := H.out
        by_cases c73 : t269 = true
        ·subst c73; rw [if_pos rfl] at H; replace H := Option.bind_eq_some_iff.mp H; obtain ⟨t270, A740, H⟩ := H; have A74 := Aside0.mk A740; clear A740
         have H' := Aside0.mk H
         clear H
         obtain ⟨Ao75, co75, eo75⟩ := Kd.R_slice HO_10.out
         subst eo75
         obtain ⟨Ao76, co76, eo76⟩ := Kd.R_slice HO_7.out
         subst eo76
         go_wp2_with (first | (go_at_call 43; (with_reducible refine (laws_eqIntS.calls kj11 _ _ t256 _ _ t243 t270 _ ?side1 ?side2 ?side3 ?side4 A74.out).mono ?_); (case side1 => repeat (first | exact (Kd.R_reads' HO_10.out).2.2 | (with_reducible refine Kd.C_alloc ?_ _) | (with_reducible refine Kd.C_drewN ?_ _) | (with_reducible refine Kd.C_drew ?_))); (case side2 => exact (Kd.R_reads' HO_10.out).2.1); (case side3 => repeat (first | exact (Kd.R_reads' HO_7.out).2.2 | (with_reducible refine Kd.C_alloc ?_ _) | (with_reducible refine Kd.C_drewN ?_ _) | (with_reducible refine Kd.C_drew ?_))); (case side4 => exact (Kd.R_reads' HO_7.out).2.1); rintro e w' ⟨rfl, ⟨nd, rfl⟩⟩))
         go_meet
         case rel => exact ⟨_, (!t270), (by first | rfl | (simp; done) | (simp [*]; done)), H', ⟨by have := HJ11.out; first | omega | exact Nat.le_refl _⟩, ⟨by exact Kd.R_nw HO_7.out⟩, ⟨by exact Kd.R_nw HO_10.out⟩, ⟨by exact Kd.Q_nw (Kd.Q_mono HO_247001.out (fun _ hk => ⟨hk.1, hk.2.1⟩))⟩, ⟨by exact Kd.Q_nw (Kd.Q_mono HO_252001.out (fun _ hk => ⟨hk.1.1, hk.1.2⟩))⟩, ⟨by exact Kd.Q_nw (Kd.Q_mono HO_260001.out (fun _ hk => ⟨hk.1, hk.2.1⟩))⟩, ⟨by exact blk_nw BK233.out⟩, ⟨by exact blk_nw BK246.out⟩, ⟨by exact blk_nw BK251.out⟩, ⟨by exact blk_nw BK259.out⟩, ⟨by exact bel0⟩⟩
        ·replace c73 := Bool.eq_false_iff.mpr c73
         subst c73
         rw [if_neg (show ¬ (false = true) by decide)] at H
         have H' := Aside0.mk H
         clear H
         go_wp2
         go_meet
         case rel => exact ⟨_, (true), (by first | rfl | (simp; done) | (simp [*]; done)), H', ⟨by have := HJ11.out; first | omega | exact Nat.le_refl _⟩, ⟨by exact Kd.R_nw HO_7.out⟩, ⟨by exact Kd.R_nw HO_10.out⟩, ⟨by exact Kd.Q_nw (Kd.Q_mono HO_247001.out (fun _ hk => ⟨hk.1, hk.2.1⟩))⟩, ⟨by exact Kd.Q_nw (Kd.Q_mono HO_252001.out (fun _ hk => ⟨hk.1.1, hk.1.2⟩))⟩, ⟨by exact Kd.Q_nw (Kd.Q_mono HO_260001.out (fun _ hk => ⟨hk.1, hk.2.1⟩))⟩, ⟨by exact blk_nw BK233.out⟩, ⟨by exact blk_nw BK246.out⟩, ⟨by exact blk_nw BK251.out⟩, ⟨by exact blk_nw BK259.out⟩, ⟨by exact bel0⟩⟩
      case rest =>
       clear HC57; try clear c1; try clear c2; try clear p2; try clear c3; try clear c4; try clear c5; try clear c6; try clear c7; try clear c7b0; try clear c8; try clear c18; try clear c24; try clear c25; try clear c30; try clear c31; try clear c32; try clear c34; try clear c35; try clear c36; try clear c37; try clear c38; try clear c40; try clear c41; try clear c42; try clear c44; try clear c48; try clear c55; try clear c58; try clear c59; try clear c60; try clear c63; try clear c63b0; try clear c65; try clear c66; try clear c67; try clear c69; try clear c70; try clear c73; try clear hcz13_0; try clear hcz13_1; try clear hcz19_0; try clear hcz19_1; try clear hcz21_0; try clear hcz21_1; try clear hcz26_0; try clear hcz26_1; try clear hcz33_0; try clear hcz33_1; try clear hcz39_0; try clear hcz39_1; try clear hcz42_0; try clear hcz42_1; try clear hcz5_0; try clear hcz5_1; try clear hcz61_0; try clear hcz61_1; try clear hcz68_0; try clear hcz68_1; try clear hcz71_0; try clear hcz71_1; try clear hfz13_0; try clear hfz13_1; try clear hfz19_0; try clear hfz19_1; try clear hfz21_0; try clear hfz21_1; try clear hfz26_0; try clear hfz26_1; try clear hfz33_0; try clear hfz33_1; try clear hfz39_0; try clear hfz39_1; try clear hfz42_0; try clear hfz42_1; try clear hfz5_0; try clear hfz5_1; try clear hfz61_0; try clear hfz61_1; try clear hfz68_0; try clear hfz68_1; try clear hfz71_0; try clear hfz71_1; try clear p2
       obtain ⟨kq, x67_56, rfl, HA, HJ56, HO_7, HO_10, HO_247001, HO_252001, HO_260001, BK233, BK246, BK251, BK259, HB⟩ := hcut
       have hl252001_56 := (Kd.Q_reads' HO_252001.out).1
       rw [hl252001_56] at HO_252001
       (try simp only [hl252001_56])
       (try simp only [hl252001_56] at BK233)
       (try simp only [hl252001_56] at BK246)
       (try simp only [hl252001_56] at BK251)
       (try simp only [hl252001_56] at BK259)
       (try simp only [hl252001_56] at HO_7)
       (try simp only [hl252001_56] at HO_10)
       (try simp only [hl252001_56] at HO_247001)
       (try simp only [hl252001_56] at HO_260001)
       cases kq with
       | zero => exact absurd HA.out (by simp [laws_FnExactWheelTick.j1])
       | succ kj56 =>
        have H := HA.out; clear HA
        simp only [laws_FnExactWheelTick.j1] at H
        by_cases c77 : x67_56 = true
        ·subst c77; rw [if_pos rfl] at H
         obtain rfl := Option.some.inj H
         go_wp2
         go_ret
         exact ⟨by first | rfl | (simp [errW_none, errW_some] <;> rfl) | (simp [*, errW_none, errW_some] <;> rfl), by exact bel0⟩
        ·replace c77 := Bool.eq_false_iff.mpr c77
         subst c77
         rw [if_neg (show ¬ (false = true) by decide)] at H
         replace H := Option.bind_eq_some_iff.mp H
         obtain ⟨⟨t271, t272⟩, A780, H⟩ := H
         replace H : ((laws_markIntS.f kj56 t256 t271).bind fun bt273 => ((laws_heldWheel.f kj56 t252 t272 1).bind fun t275 => (if t275 < 0 then (some false) else ((laws_heldIntS.f kj56 bt273.2 t275).bind fun t276 => (if t276 < 0 then (some false) else (if t276 = bt273.1 then ((laws_toWheel.f kj56 a0_0 l0_1).bind fun bt277 => ((impl_WheelTick.f kj56 bt277.1 bt277.2 a1).bind fun bt281 => ((laws_eqWheel.f kj56 bt281.1 bt281.2.1 t239 t240).bind fun t289 => (if t289 = true then ((laws_eqIntS.f kj56 bt281.2.2 t243).bind fun t290 => (laws_FnExactWheelTick.j2 kj56 bt273.2 bt273.1 (!t290) t252 t272)) else (laws_FnExactWheelTick.j2 kj56 bt273.2 bt273.1 true t252 t272))))) else (some false))))))) = some r := H
         have A78 := Aside0.mk A780; clear A780; replace H := Option.bind_eq_some_iff.mp H
         obtain ⟨⟨t273, t274⟩, A790, H⟩ := H
         replace H : ((laws_heldWheel.f kj56 t252 t272 1).bind fun t275 => (if t275 < 0 then (some false) else ((laws_heldIntS.f kj56 t274 t275).bind fun t276 => (if t276 < 0 then (some false) else (if t276 = t273 then ((laws_toWheel.f kj56 a0_0 l0_1).bind fun bt277 => ((impl_WheelTick.f kj56 bt277.1 bt277.2 a1).bind fun bt281 => ((laws_eqWheel.f kj56 bt281.1 bt281.2.1 t239 t240).bind fun t289 => (if t289 = true then ((laws_eqIntS.f kj56 bt281.2.2 t243).bind fun t290 => (laws_FnExactWheelTick.j2 kj56 t274 t273 (!t290) t252 t272)) else (laws_FnExactWheelTick.j2 kj56 t274 t273 true t252 t272))))) else (some false)))))) = some r := H
         have A79 := Aside0.mk A790; clear A790; replace H := Option.bind_eq_some_iff.mp H; obtain ⟨t275, A800, H⟩ := H; have A80 := Aside0.mk A800; clear A800; have hnb81 := NB259_233.out; have hnc81 := NB233_259.out; have hnb82 := NB259_246.out; have hnc82 := NB246_259.out; have hnb83 := NB259_251.out; have hnc83 := NB251_259.out; obtain ⟨hcz84_0, hcz84_1⟩ := blkz2 BK259.out; have hfz84_0 := blkf BK259.out
         replace H := Aside0.mk H
         go_wp2_with (first | ((with_reducible refine gate_callee (f := 35) rfl ?_); refine goesL_ (some 70) rfl rfl Try.func35 (by kernel_rfl) rfl #[.agg #[.int .i64 t252, .slice Ao34 t253.length co34], .int .i64 1] rfl (by (try simp only [List.map_toArray, List.map_cons, List.map_nil]); first | done | rfl | (simp only [List.length_drop, List.length_take]; rfl)) ?_; (with_reducible refine (laws_markWheel.calls kj56 t252 (fun k_ => some k_ = (.slice Ao34 t253.length co34 : Value).ownBlock) (.slice Ao34 t253.length co34) t253 1 t271 t272 w _ ?side1 ?side2 A78.out).mono ?_); (case side1 => exact bel0); (case side2 => exact Kd.Q_tight rfl HO_260001.out); rintro e w85 ⟨rfl, hy0, hb, hkp⟩; refine ⟨_, rfl, ?_⟩; have n_ := an (Kd.R_mono (ok' := fun k_ => some k_ ≠ (v257 : Value).ownBlock) (Kd.R_keptB ((Kd.R_apart' HO_7.out (Kd.Q_typed HO_260001.out) (by decide))) hkp (fun k_ hk_ hs_ => (hk_.2) hs_)) (fun k_ hk_ => hk_.1.1)) (an (Kd.R_mono (ok' := fun k_ => some k_ ≠ (v244 : Value).ownBlock) (Kd.R_keptB ((Kd.R_apart' HO_10.out (Kd.Q_typed HO_260001.out) (by decide))) hkp (fun k_ hk_ hs_ => (hk_.2) hs_)) (fun k_ hk_ => hk_.1.1)) (an (Kd.Q_mono (ok' := fun k_ => some k_ ≠ (.slice Ao27 t268.length co27 : Value).ownBlock ∧ some k_ ≠ (.slice Ao34 t253.length co34 : Value).ownBlock) (Kd.Q_keptB (HO_247001.out) hkp (fun k_ hk_ hs_ => (hk_.2) hs_)) (fun k_ hk_ => ⟨hk_.1.1, hk_.1.2⟩)) (an (Kd.Q_mono (ok' := fun k_ => some k_ ≠ (.slice Ao20 t240.length co20 : Value).ownBlock ∧ some k_ ≠ (.slice Ao34 t253.length co34 : Value).ownBlock) (Kd.Q_keptB (HO_252001.out) hkp (fun k_ hk_ hs_ => (hk_.2) hs_)) (fun k_ hk_ => ⟨hk_.1.1, hk_.1.2⟩)) (an (Kd.Q_mono (Kd.Q_tight rfl hy0) (fun k_ e_ => HO_260001.out.1 k_ e_.symm)) (an (blk_kept (by exact blk_nw BK233.out) hkp (fun hs_ => (fun e_ => (Kd.Q_ne HO_260001.out BK233.out (by decide)) e_) hs_)) (an (blk_kept (by exact blk_nw BK246.out) hkp (fun hs_ => (fun e_ => (Kd.Q_ne HO_260001.out BK246.out (by decide)) e_) hs_)) (an (blk_kept (by exact blk_nw BK251.out) hkp (fun hs_ => (fun e_ => (Kd.Q_ne HO_260001.out BK251.out (by decide)) e_) hs_)) (an (blk_kept (by exact blk_nw BK259.out) hkp (fun hs_ => (fun e_ => (Kd.Q_ne HO_260001.out BK259.out (by decide)) e_) hs_)) (an (hb) (trivial)))))))))); clear HO_7 HO_10 HO_247001 HO_252001 HO_260001 BK233 BK246 BK251 BK259 HB; obtain ⟨HO_7, HO_10, HO_247001, HO_252001, HO_260001, BK233, BK246, BK251, BK259, HB, -⟩ := n_; (try clear hb); (try clear hkp); (try clear hy0); obtain ⟨Ao86, co86, eo86⟩ := Kd.R_slice HO_10.out; subst eo86) | ((with_reducible refine gate_callee (f := 44) rfl ?_); refine goesL_ (some 73) rfl rfl Try.func44 (by kernel_rfl) rfl #[.slice Ao86 t256.length co86, .int .i64 t271] rfl (by (try simp only [List.map_toArray, List.map_cons, List.map_nil]); first | done | rfl | (simp only [List.length_drop, List.length_take]; rfl)) ?_; (with_reducible refine (laws_markIntS.calls kj56 (fun k_ => some k_ = (.slice Ao86 t256.length co86 : Value).ownBlock) (.slice Ao86 t256.length co86) t256 t271 t273 t274 w _ ?side1 ?side2 A79.out).mono ?_); (case side1 => exact bel0); (case side2 => exact Kd.R_tight rfl HO_10.out); rintro e w87 ⟨rfl, hy0, hb, hkp⟩; refine ⟨_, rfl, ?_⟩; have n_ := an (Kd.R_mono (ok' := fun k_ => some k_ ≠ (.slice Ao86 t256.length co86 : Value).ownBlock) (Kd.R_keptB (HO_7.out) hkp (fun k_ hk_ hs_ => (hk_) hs_)) (fun k_ hk_ => hk_.1)) (an (Kd.R_reok rfl hy0 (fun k_ e_ => HO_10.out.1 k_ e_)) (an (Kd.Q_mono (ok' := fun k_ => some k_ ≠ (.slice Ao27 t268.length co27 : Value).ownBlock ∧ some k_ ≠ (.slice Ao34 t253.length co34 : Value).ownBlock) (Kd.Q_keptB ((Kd.Q_apart' HO_247001.out (Kd.R_typed HO_10.out) (by decide))) hkp (fun k_ hk_ hs_ => (hk_.2) hs_)) (fun k_ hk_ => ⟨hk_.1.1.1, hk_.1.1.2⟩)) (an (Kd.Q_mono (ok' := fun k_ => some k_ ≠ (.slice Ao20 t240.length co20 : Value).ownBlock ∧ some k_ ≠ (.slice Ao34 t253.length co34 : Value).ownBlock) (Kd.Q_keptB ((Kd.Q_apart' HO_252001.out (Kd.R_typed HO_10.out) (by decide))) hkp (fun k_ hk_ hs_ => (hk_.2) hs_)) (fun k_ hk_ => ⟨hk_.1.1.1, hk_.1.1.2⟩)) (an (Kd.Q_mono (ok' := fun k_ => some k_ ≠ (.slice Ao20 t240.length co20 : Value).ownBlock ∧ some k_ ≠ (.slice Ao27 t268.length co27 : Value).ownBlock) (Kd.Q_keptB ((Kd.Q_apart' HO_260001.out (Kd.R_typed HO_10.out) (by decide))) hkp (fun k_ hk_ hs_ => (hk_.2) hs_)) (fun k_ hk_ => ⟨hk_.1.1.1, hk_.1.1.2⟩)) (an (blk_kept (by exact blk_nw BK233.out) hkp (fun hs_ => (fun e_ => (Kd.R_ne HO_10.out BK233.out (by decide)) e_) hs_)) (an (blk_kept (by exact blk_nw BK246.out) hkp (fun hs_ => (fun e_ => (Kd.R_ne HO_10.out BK246.out (by decide)) e_) hs_)) (an (blk_kept (by exact blk_nw BK251.out) hkp (fun hs_ => (fun e_ => (Kd.R_ne HO_10.out BK251.out (by decide)) e_) hs_)) (an (blk_kept (by exact blk_nw BK259.out) hkp (fun hs_ => (fun e_ => (Kd.R_ne HO_10.out BK259.out (by decide)) e_) hs_)) (an (hb) (trivial)))))))))); clear HO_7 HO_10 HO_247001 HO_252001 HO_260001 BK233 BK246 BK251 BK259 HB; obtain ⟨HO_7, HO_10, HO_247001, HO_252001, HO_260001, BK233, BK246, BK251, BK259, HB, -⟩ := n_; (try clear hb); (try clear hkp); (try clear hy0); obtain ⟨hcz88_0, hcz88_1⟩ := blkz2 BK259.out; have hfz88_0 := blkf BK259.out) | ((with_reducible refine gate_callee (f := 36) rfl ?_); refine goesL_ (some 76) rfl rfl Try.func36 (by kernel_rfl) rfl #[.agg #[.int .i64 t252, .slice Ao34 t272.length co34], .int .i64 1] rfl (by (try simp only [List.map_toArray, List.map_cons, List.map_nil]); first | done | (rw [show t272.length = t253.length from (Kd.Q_reads' HO_260001.out).1.symm] <;> rfl) | rfl | (simp only [List.length_drop, List.length_take]; rfl)) ?_; (with_reducible refine (laws_heldWheel.calls kj56 t252 _ _ t272 1 t275 _ ?side1 ?side2 A80.out).mono ?_); (case side1 => repeat (first | exact (Kd.Q_reads' HO_260001.out).2.2 | (with_reducible refine Kd.C_alloc ?_ _) | (with_reducible refine Kd.C_drewN ?_ _) | (with_reducible refine Kd.C_drew ?_))); (case side2 => rw [show t272.length = t253.length from (Kd.Q_reads' HO_260001.out).1.symm]; exact (Kd.Q_reads' HO_260001.out).2.1); rintro e w89 ⟨rfl, hb⟩; refine ⟨_, rfl, ?_⟩; have n_ := an (Kd.R_below (by exact Kd.R_nw HO_7.out) hb) (an (Kd.R_below (by exact Kd.R_nw HO_10.out) hb) (an (Kd.Q_below (by exact Kd.Q_nw HO_247001.out) hb) (an (Kd.Q_below (by exact Kd.Q_nw HO_252001.out) hb) (an (Kd.Q_below (by exact Kd.Q_nw HO_260001.out) hb) (an (blk_below (blk_nw BK233.out) hb) (an (blk_below (blk_nw BK246.out) hb) (an (blk_below (blk_nw BK251.out) hb) (an (blk_below (blk_nw BK259.out) hb) (an (below_step (by exact bel0) hb) (trivial)))))))))); clear HO_7 HO_10 HO_247001 HO_252001 HO_260001 BK233 BK246 BK251 BK259 HB; obtain ⟨HO_7, HO_10, HO_247001, HO_252001, HO_260001, BK233, BK246, BK251, BK259, HB, -⟩ := n_; (try clear hb); (try clear hb2); (try clear hk); (try clear hi); refine Stop.out ?_))
         refine Stop.mk ?_
         replace H := H.out
         by_cases c90 : t275 < 0
         ·rw [if_pos c90] at H; have c90b0 : decide (t275 < 0) = true := decide_eq_true c90; clear c90; (try simp only [c90b0])
          obtain rfl := Option.some.inj H
          go_wp2
          go_ret
          exact ⟨by first | rfl | (simp [errW_none, errW_some] <;> rfl) | (simp [*, errW_none, errW_some] <;> rfl), by exact bel0⟩
         ·rw [if_neg c90] at H; have c90b0 : decide (t275 < 0) = false := decide_eq_false c90; clear c90; (try simp only [c90b0]); replace H := Option.bind_eq_some_iff.mp H; obtain ⟨t276, A910, H⟩ := H; have A91 := Aside0.mk A910; clear A910
          replace H := Aside0.mk H
          go_wp2_with (first | ((with_reducible refine gate_callee (f := 45) rfl ?_); refine goesL_ (some 81) rfl rfl Try.func45 (by kernel_rfl) rfl #[.slice Ao86 t274.length co86, .int .i64 t275] rfl (by (try simp only [List.map_toArray, List.map_cons, List.map_nil]); first | done | (rw [show t274.length = t256.length from (Kd.R_reads' HO_10.out).1.symm] <;> rfl) | rfl | (simp only [List.length_drop, List.length_take]; rfl)) ?_; (with_reducible refine (laws_heldIntS.calls kj56 _ _ t274 t275 t276 _ ?side1 ?side2 A91.out).mono ?_); (case side1 => repeat (first | exact (Kd.R_reads' HO_10.out).2.2 | (with_reducible refine Kd.C_alloc ?_ _) | (with_reducible refine Kd.C_drewN ?_ _) | (with_reducible refine Kd.C_drew ?_))); (case side2 => rw [show t274.length = t256.length from (Kd.R_reads' HO_10.out).1.symm]; exact (Kd.R_reads' HO_10.out).2.1); rintro e w' ⟨rfl, ⟨nd, rfl⟩⟩; refine ⟨_, rfl, ?_⟩; (try (rw [drewN_self w89]; generalize hq_ : World.drewN w89 _ = w89; have n0_ : Aside0 (Kd.R (Kd.int .i64) 3 w89 w.heap.size (fun k_ => some k_ ≠ (v244 : Value).ownBlock) (.slice Ao86 t256.length co86) t274) := ⟨by rw [← hq_]; exact (by exact Kd.R_nw HO_10.out)⟩; have n1_ : Aside0 (Kd.Q k133 133 w89 w.heap.size (fun k_ => some k_ ≠ (.slice Ao27 t268.length co27 : Value).ownBlock ∧ some k_ ≠ (.slice Ao34 t253.length co34 : Value).ownBlock) (.slice Ao20 t240.length co20) t240) := ⟨by rw [← hq_]; exact (by exact Kd.Q_nw HO_247001.out)⟩; have n2_ : Aside0 (Kd.Q k133 133 w89 w.heap.size (fun k_ => some k_ ≠ (.slice Ao20 t240.length co20 : Value).ownBlock ∧ some k_ ≠ (.slice Ao34 t253.length co34 : Value).ownBlock) (.slice Ao27 t268.length co27) t268) := ⟨by rw [← hq_]; exact (by exact Kd.Q_nw HO_252001.out)⟩; have n3_ : Aside0 (Kd.Q k133 133 w89 w.heap.size (fun k_ => some k_ ≠ (.slice Ao20 t240.length co20 : Value).ownBlock ∧ some k_ ≠ (.slice Ao27 t268.length co27 : Value).ownBlock) (.slice Ao34 t253.length co34) t272) := ⟨by rw [← hq_]; exact (by exact Kd.Q_nw HO_260001.out)⟩; have n4_ : Aside0 (Kd.R (Kd.int .i64) 3 w89 w.heap.size (fun k_ => some k_ ≠ (.slice Ao86 t256.length co86 : Value).ownBlock) v244 t243) := ⟨by rw [← hq_]; exact (by exact Kd.R_nw HO_7.out)⟩; have n5_ : Aside0 (w89.heap[gb233]? = some (.cells #[.int .i64 a0_0, .slice A0_1 l0_1.length c0_1] 50 (0, 0))) := ⟨by rw [← hq_]; exact (by exact blk_nw BK233.out)⟩; have n6_ : Aside0 (w89.heap[gb246]? = some (.cells #[.int .i64 t239, .slice Ao20 t240.length co20] 54 (0, 0))) := ⟨by rw [← hq_]; exact (by exact blk_nw BK246.out)⟩; have n7_ : Aside0 (w89.heap[gb251]? = some (.cells #[.int .i64 t247, .slice Ao27 t268.length co27] 54 (0, 0))) := ⟨by rw [← hq_]; exact (by exact blk_nw BK251.out)⟩; have n8_ : Aside0 (w89.heap[gb259]? = some (.cells #[.int .i64 t252, .slice Ao34 t253.length co34] 54 (0, 0))) := ⟨by rw [← hq_]; exact (by exact blk_nw BK259.out)⟩; have n9_ : Aside0 (Below w.heap.size w w89) := ⟨by rw [← hq_]; exact (by exact bel0)⟩; clear HO_10 HO_247001 HO_252001 HO_260001 HO_7 BK233 BK246 BK251 BK259 HB hq_; have HO_10 := n0_; have HO_247001 := n1_; have HO_252001 := n2_; have HO_260001 := n3_; have HO_7 := n4_; have BK233 := n5_; have BK246 := n6_; have BK251 := n7_; have BK259 := n8_; have HB := n9_; clear n0_ n1_ n2_ n3_ n4_ n5_ n6_ n7_ n8_ n9_)); refine Stop.out ?_))
          refine Stop.mk ?_
          replace H := H.out
          by_cases c92 : t276 < 0
          ·rw [if_pos c92] at H; have c92b0 : decide (t276 < 0) = true := decide_eq_true c92; clear c92; (try simp only [c92b0])
           obtain rfl := Option.some.inj H
           go_wp2
           go_ret
           exact ⟨by first | rfl | (simp [errW_none, errW_some] <;> rfl) | (simp [*, errW_none, errW_some] <;> rfl), by exact bel0⟩
          ·rw [if_neg c92] at H; have c92b0 : decide (t276 < 0) = false := decide_eq_false c92; clear c92; (try simp only [c92b0])
           by_cases c93 : t276 = t273
           ·rw [if_pos c93] at H; have c93b0 : (t276 == t273) = true := beq_iff_eq.mpr c93; have c93b1 : (t276 != t273) = false := bne_eq_false_iff_eq.mpr c93; clear c93; replace H := Option.bind_eq_some_iff.mp H
            obtain ⟨⟨t277, t278⟩, A940, H⟩ := H
            replace H : ((impl_WheelTick.f kj56 t277 t278 a1).bind fun bt281 => ((laws_eqWheel.f kj56 bt281.1 bt281.2.1 t239 t240).bind fun t289 => (if t289 = true then ((laws_eqIntS.f kj56 bt281.2.2 t243).bind fun t290 => (laws_FnExactWheelTick.j2 kj56 t274 t273 (!t290) t252 t272)) else (laws_FnExactWheelTick.j2 kj56 t274 t273 true t252 t272)))) = some r := H
            have A94 := Aside0.mk A940; clear A940; replace H := Option.bind_eq_some_iff.mp H
            obtain ⟨⟨t281, t282, t285⟩, A950, H⟩ := H
            replace H : ((laws_eqWheel.f kj56 t281 t282 t239 t240).bind fun t289 => (if t289 = true then ((laws_eqIntS.f kj56 t285 t243).bind fun t290 => (laws_FnExactWheelTick.j2 kj56 t274 t273 (!t290) t252 t272)) else (laws_FnExactWheelTick.j2 kj56 t274 t273 true t252 t272))) = some r := H
            have A95 := Aside0.mk A950; clear A950; have HC96 := Aside0.mk H; clear H; have hnb97 := NB233_246.out; have hnc97 := NB246_233.out; have hnb98 := NB233_251.out; have hnc98 := NB251_233.out; have hnb99 := NB233_259.out; have hnc99 := NB259_233.out; obtain ⟨hcz100_0, hcz100_1⟩ := blkz2 BK233.out; have hfz100_0 := blkf BK233.out
            go_upto_region 29 with (first | ((with_reducible refine gate_callee (f := 32) rfl ?_); refine goesL_ (some 89) rfl rfl Try.func32 (by kernel_rfl) rfl #[.agg #[.int .i64 a0_0, .slice A0_1 l0_1.length c0_1]] rfl (by (try simp only [List.map_toArray, List.map_cons, List.map_nil]); first | done | rfl | (simp only [List.length_drop, List.length_take]; rfl)) ?_; (with_reducible refine (laws_toWheel.calls kj56 a0_0 _ _ l0_1 t277 t278 _ ?side1 ?side2 A94.out).mono ?_); (case side1 => repeat (first | exact (Kd.C_below HR0_1.out HB.out) | (with_reducible refine Kd.C_alloc ?_ _) | (with_reducible refine Kd.C_drewN ?_ _) | (with_reducible refine Kd.C_drew ?_))); (case side2 => exact HC0_1.out); rintro e w101 ⟨v279, rfl, ho0, hb⟩; refine ⟨_, rfl, ?_⟩; have n_ := an (Kd.R_below (by exact Kd.R_nw HO_7.out) hb) (an (Kd.R_below (by exact Kd.R_nw HO_10.out) hb) (an (Kd.Q_elder' (by exact Kd.Q_nw HO_247001.out) (Kd.R_base ho0) hb) (an (Kd.Q_elder' (by exact Kd.Q_nw HO_252001.out) (Kd.R_base ho0) hb) (an (Kd.Q_elder' (by exact Kd.Q_nw HO_260001.out) (Kd.R_base ho0) hb) (an (Kd.R_lower (Kd.R_new' (Kd.R_new' (Kd.R_new' ho0 (Kd.Q_lt (by exact Kd.Q_nw HO_247001.out))) (Kd.Q_lt (by exact Kd.Q_nw HO_252001.out))) (Kd.Q_lt (by exact Kd.Q_nw HO_260001.out))) (below_size (by exact bel0))) (an (blk_below (blk_nw BK233.out) hb) (an (blk_below (blk_nw BK246.out) hb) (an (blk_below (blk_nw BK251.out) hb) (an (blk_below (blk_nw BK259.out) hb) (an (below_step (by exact bel0) hb) (trivial))))))))))); clear HO_7 HO_10 HO_247001 HO_252001 HO_260001 BK233 BK246 BK251 BK259 HB; obtain ⟨HO_7, HO_10, HO_247001, HO_252001, HO_260001, HO280, BK233, BK246, BK251, BK259, HB, -⟩ := n_; (try clear hb); (try clear hb2); (try clear hk); (try clear hi); (try clear ho0); obtain ⟨Ao102, co102, eo102⟩ := Kd.R_slice HO280.out; subst eo102) | ((with_reducible refine gate_callee (f := 42) rfl ?_); refine goesL_ (some 91) rfl rfl Try.func42 (by kernel_rfl) rfl #[.agg #[.int .i64 t277, .slice Ao102 t278.length co102], .int .i64 a1] rfl (by (try simp only [List.map_toArray, List.map_cons, List.map_nil]); first | done | rfl | (simp only [List.length_drop, List.length_take]; rfl)) ?_; (with_reducible refine (impl_WheelTick.calls kj56 t277 _ _ t278 a1 t281 t282 t285 _ ?side1 ?side2 A95.out).mono ?_); (case side1 => repeat (first | exact (Kd.R_reads' HO280.out).2.2 | (with_reducible refine Kd.C_alloc ?_ _) | (with_reducible refine Kd.C_drewN ?_ _) | (with_reducible refine Kd.C_drew ?_))); (case side2 => exact (Kd.R_reads' HO280.out).2.1); rintro e w103 ⟨v283, v286, rfl, ho0, ho1, hb⟩; refine ⟨_, rfl, ?_⟩; have n_ := an (Kd.R_elder' (by exact Kd.R_nw HO_7.out) (Kd.R_base ho1) hb) (an (Kd.R_elder' (by exact Kd.R_nw HO_10.out) (Kd.R_base ho1) hb) (an (Kd.Q_elder' (by exact Kd.Q_nw HO_247001.out) (Kd.Q_base ho0) hb) (an (Kd.Q_elder' (by exact Kd.Q_nw HO_252001.out) (Kd.Q_base ho0) hb) (an (Kd.Q_elder' (by exact Kd.Q_nw HO_260001.out) (Kd.Q_base ho0) hb) (an (Kd.R_elder' (by exact Kd.R_nw HO280.out) (Kd.Q_base ho0) hb) (an (Kd.Q_lower (Kd.Q_new' (Kd.Q_new' (Kd.Q_new' (Kd.Q_new' ho0 (Kd.Q_lt (by exact Kd.Q_nw HO_247001.out))) (Kd.Q_lt (by exact Kd.Q_nw HO_252001.out))) (Kd.Q_lt (by exact Kd.Q_nw HO_260001.out))) (Kd.R_lt (by exact Kd.R_nw HO280.out))) (below_size (by exact bel0))) (an (Kd.R_lower (Kd.R_new' (Kd.R_new' ho1 (Kd.R_lt (by exact Kd.R_nw HO_7.out))) (Kd.R_lt (by exact Kd.R_nw HO_10.out))) (below_size (by exact bel0))) (an (blk_below (blk_nw BK233.out) hb) (an (blk_below (blk_nw BK246.out) hb) (an (blk_below (blk_nw BK251.out) hb) (an (blk_below (blk_nw BK259.out) hb) (an (below_step (by exact bel0) hb) (trivial))))))))))))); clear HO_7 HO_10 HO_247001 HO_252001 HO_260001 HO280 BK233 BK246 BK251 BK259 HB; obtain ⟨HO_7, HO_10, HO_247001, HO_252001, HO_260001, HO280, HO284, HO287, BK233, BK246, BK251, BK259, HB, -⟩ := n_; (try clear hb); (try clear hb2); (try clear hk); (try clear hi); (try clear ho0); (try clear ho1)) | ((with_reducible refine gate_dst (N := 14) rfl ?_); refine box_event ?hg (N := 14) ?hd (cs := #[.int .i64 0, .slice none 0 0]) (t := 54) ?hr ?_; (case hd => rfl); (case hg => rfl); (case hr => first | (go_simp; done) | (go_simp; rfl)); intro gb288 hg w104 hbox hb; have n_ := an (Kd.R_below (by exact Kd.R_nw HO_7.out) hb) (an (Kd.R_below (by exact Kd.R_nw HO_10.out) hb) (an (Kd.Q_below (by exact Kd.Q_nw HO_247001.out) hb) (an (Kd.Q_below (by exact Kd.Q_nw HO_252001.out) hb) (an (Kd.Q_below (by exact Kd.Q_nw HO_260001.out) hb) (an (Kd.R_below (by exact Kd.R_nw HO280.out) hb) (an (Kd.Q_below (by exact Kd.Q_nw HO284.out) hb) (an (Kd.R_below (by exact Kd.R_nw HO287.out) hb) (an (blk_below (blk_nw BK233.out) hb) (an (blk_below (blk_nw BK246.out) hb) (an (blk_below (blk_nw BK251.out) hb) (an (blk_below (blk_nw BK259.out) hb) (an (below_step (by exact bel0) hb) (an (hbox) (an ((by rw [hg]; exact (below_size (by exact bel0)) : w.heap.size ≤ gb288)) (an ((by rw [hg]; exact (below_size (by exact bel0)) : w.heap.size ≤ gb288)) (an ((by rw [hg]; exact Nat.ne_of_lt (blk_lt (blk_nw BK233.out)) : gb233 ≠ gb288)) (an ((by rw [hg]; exact Nat.ne_of_gt (blk_lt (blk_nw BK233.out)) : gb288 ≠ gb233)) (an ((by rw [hg]; exact Nat.ne_of_lt (blk_lt (blk_nw BK246.out)) : gb246 ≠ gb288)) (an ((by rw [hg]; exact Nat.ne_of_gt (blk_lt (blk_nw BK246.out)) : gb288 ≠ gb246)) (an ((by rw [hg]; exact Nat.ne_of_lt (blk_lt (blk_nw BK251.out)) : gb251 ≠ gb288)) (an ((by rw [hg]; exact Nat.ne_of_gt (blk_lt (blk_nw BK251.out)) : gb288 ≠ gb251)) (an ((by rw [hg]; exact Nat.ne_of_lt (blk_lt (blk_nw BK259.out)) : gb259 ≠ gb288)) (an ((by rw [hg]; exact Nat.ne_of_gt (blk_lt (blk_nw BK259.out)) : gb288 ≠ gb259)) (trivial)))))))))))))))))))))))); clear HO_7 HO_10 HO_247001 HO_252001 HO_260001 HO280 HO284 HO287 BK233 BK246 BK251 BK259 HB; obtain ⟨HO_7, HO_10, HO_247001, HO_252001, HO_260001, HO280, HO284, HO287, BK233, BK246, BK251, BK259, HB, BK288, GW288, GE288, NB233_288, NB288_233, NB246_288, NB288_246, NB251_288, NB288_251, NB259_288, NB288_259, -⟩ := n_; clear hb hbox hg; have hnb105 := NB288_233.out; have hnc105 := NB233_288.out; have hnb106 := NB288_246.out; have hnc106 := NB246_288.out; have hnb107 := NB288_251.out; have hnc107 := NB251_288.out; have hnb108 := NB288_259.out; have hnc108 := NB259_288.out; obtain ⟨hcz109_0, hcz109_1⟩ := blkz2 BK288.out; have hfz109_0 := blkf BK288.out; obtain ⟨Ao110, co110, eo110, _⟩ := Kd.Q_slice HO284.out; subst eo110))
            (try simp only [Act.put, List.setIfInBounds_toArray, List.set_cons_zero, List.set_cons_succ])
            go_cut [103] (fun v103 wc => ∃ (kq : Nat) (x103_95 : Bool), v103 = .bool x103_95 ∧ Aside0 (laws_FnExactWheelTick.j2 kq t274 t273 x103_95 t252 t272 = some r) ∧ Aside0 (kq ≤ kj56) ∧ Aside0 (Kd.R (Kd.int .i64) 3 wc w.heap.size (fun _ => True) (.slice Ao86 t256.length co86) t274) ∧ Aside0 (Kd.Q k133 133 wc w.heap.size (fun k_ => some k_ ≠ ((.slice Ao27 t268.length co27) : Value).ownBlock ∧ some k_ ≠ ((.slice Ao34 t253.length co34) : Value).ownBlock ∧ some k_ ≠ ((.slice Ao110 t282.length co110) : Value).ownBlock) (.slice Ao20 t240.length co20) t240) ∧ Aside0 (Kd.Q k133 133 wc w.heap.size (fun k_ => some k_ ≠ ((.slice Ao20 t240.length co20) : Value).ownBlock ∧ some k_ ≠ ((.slice Ao34 t253.length co34) : Value).ownBlock ∧ some k_ ≠ ((.slice Ao110 t282.length co110) : Value).ownBlock) (.slice Ao27 t268.length co27) t268) ∧ Aside0 (Kd.Q k133 133 wc w.heap.size (fun k_ => some k_ ≠ ((.slice Ao20 t240.length co20) : Value).ownBlock ∧ some k_ ≠ ((.slice Ao27 t268.length co27) : Value).ownBlock ∧ some k_ ≠ ((.slice Ao110 t282.length co110) : Value).ownBlock) (.slice Ao34 t253.length co34) t272) ∧ Aside0 (Kd.Q k133 133 wc w.heap.size (fun k_ => some k_ ≠ ((.slice Ao20 t240.length co20) : Value).ownBlock ∧ some k_ ≠ ((.slice Ao27 t268.length co27) : Value).ownBlock ∧ some k_ ≠ ((.slice Ao34 t253.length co34) : Value).ownBlock) (.slice Ao110 t282.length co110) t282) ∧ Aside0 (wc.heap[gb233]? = some (.cells #[.int .i64 a0_0, (.slice A0_1 l0_1.length c0_1)] 50 (0, 0))) ∧ Aside0 (wc.heap[gb246]? = some (.cells #[.int .i64 t239, (.slice Ao20 t240.length co20)] 54 (0, 0))) ∧ Aside0 (wc.heap[gb251]? = some (.cells #[.int .i64 t247, (.slice Ao27 t268.length co27)] 54 (0, 0))) ∧ Aside0 (wc.heap[gb259]? = some (.cells #[.int .i64 t252, (.slice Ao34 t253.length co34)] 54 (0, 0))) ∧ Aside0 (wc.heap[gb288]? = some (.cells #[.int .i64 t281, (.slice Ao110 t282.length co110)] 54 (0, 0))) ∧ Aside0 (Below w.heap.size w wc))
            case first =>
             have H := HC96.out; clear HC96; replace H := Option.bind_eq_some_iff.mp H; obtain ⟨t289, A1110, H⟩ := H; have A111 := Aside0.mk A1110; clear A1110; have hnb112 := NB288_233.out; have hnc112 := NB233_288.out; have hnb113 := NB288_246.out; have hnc113 := NB246_288.out; have hnb114 := NB288_251.out; have hnc114 := NB251_288.out; have hnb115 := NB288_259.out; have hnc115 := NB259_288.out; obtain ⟨hcz116_0, hcz116_1⟩ := blkz2 BK288.out; have hfz116_0 := blkf BK288.out; have hnb117 := NB246_233.out; have hnc117 := NB233_246.out; have hnb118 := NB246_251.out; have hnc118 := NB251_246.out; have hnb119 := NB246_259.out; have hnc119 := NB259_246.out; obtain ⟨hcz120_0, hcz120_1⟩ := blkz2 BK246.out; have hfz120_0 := blkf BK246.out
             replace H := Aside0.mk H
             go_wp2_with (first | ((with_reducible refine gate_callee (f := 34) rfl ?_); refine goesL_ (some 96) rfl rfl Try.func34 (by kernel_rfl) rfl #[.agg #[.int .i64 t281, .slice Ao110 t282.length co110], .agg #[.int .i64 t239, .slice Ao20 t240.length co20]] rfl (by (try simp only [List.map_toArray, List.map_cons, List.map_nil]); first | done | rfl | (simp only [List.length_drop, List.length_take]; rfl)) ?_; (with_reducible refine (laws_eqWheel.calls kj56 t281 _ _ t282 t239 _ _ t240 t289 _ ?side1 ?side2 ?side3 ?side4 A111.out).mono ?_); (case side1 => refine (Kd.Q_reads' (e := 133) (base := w.heap.size) (ok := fun k_ => ((((True ∧ some k_ ≠ (.slice Ao20 t240.length co20 : Value).ownBlock) ∧ some k_ ≠ (.slice Ao27 t268.length co27 : Value).ownBlock) ∧ some k_ ≠ (.slice Ao34 t253.length co34 : Value).ownBlock) ∧ some k_ ≠ (.slice Ao102 t278.length co102 : Value).ownBlock)) (n := t282.length) (c := co110) ?_).2.2; exact (by exact (Kd.Q_farN HO284.out BK288.out))); (case side2 => exact (Kd.Q_reads' HO284.out).2.1); (case side3 => refine (Kd.Q_reads' (e := 133) (base := w.heap.size) (ok := fun k_ => (((some k_ ≠ (.slice Ao27 t268.length co27 : Value).ownBlock ∧ some k_ ≠ (.slice Ao34 t253.length co34 : Value).ownBlock) ∧ some k_ ≠ (.slice Ao102 t278.length co102 : Value).ownBlock) ∧ some k_ ≠ (.slice Ao110 t282.length co110 : Value).ownBlock)) (n := t240.length) (c := co20) ?_).2.2; exact (by exact (Kd.Q_farN HO_247001.out BK288.out))); (case side4 => exact (Kd.Q_reads' HO_247001.out).2.1); rintro e w121 ⟨rfl, hb⟩; refine ⟨_, rfl, ?_⟩; have n_ := an (Kd.R_below (by exact (Kd.R_farN HO_7.out BK288.out)) hb) (an (Kd.R_below (by exact (Kd.R_farN HO_10.out BK288.out)) hb) (an (Kd.Q_below (by exact (Kd.Q_farN HO_247001.out BK288.out)) hb) (an (Kd.Q_below (by exact (Kd.Q_farN HO_252001.out BK288.out)) hb) (an (Kd.Q_below (by exact (Kd.Q_farN HO_260001.out BK288.out)) hb) (an (Kd.R_below (by exact (Kd.R_farN HO280.out BK288.out)) hb) (an (Kd.Q_below (by exact (Kd.Q_farN HO284.out BK288.out)) hb) (an (Kd.R_below (by exact (Kd.R_farN HO287.out BK288.out)) hb) (an (blk_below (blk_kb BK233.out NB233_288.out) hb) (an (blk_below (blk_kb BK246.out NB246_288.out) hb) (an (blk_below (blk_kb BK251.out NB251_288.out) hb) (an (blk_below (blk_kb BK259.out NB259_288.out) hb) (an (blk_below (g := gb288) (o := .cells #[.int .i64 t281, .slice Ao110 t282.length co110] 54 (0, 0)) (by (with_reducible repeat (first | refine blk_drewN ?_ _ | refine blk_drew ?_ | refine blk_alloc ?_ _)); exact blk_fill2 BK288.out) hb) (an (below_step (by exact bel0) hb) (trivial)))))))))))))); clear HO_7 HO_10 HO_247001 HO_252001 HO_260001 HO280 HO284 HO287 BK233 BK246 BK251 BK259 BK288 HB; obtain ⟨HO_7, HO_10, HO_247001, HO_252001, HO_260001, HO280, HO284, HO287, BK233, BK246, BK251, BK259, BK288, HB, -⟩ := n_; (try clear hb); (try clear hb2); (try clear hk); (try clear hi); refine Stop.out ?_))
             refine Stop.mk ?_
             replace H := H.out
             by_cases c122 : t289 = true
             ·subst c122; rw [if_pos rfl] at H; replace H := Option.bind_eq_some_iff.mp H; obtain ⟨t290, A1230, H⟩ := H; have A123 := Aside0.mk A1230; clear A1230
              have H' := Aside0.mk H
              clear H
              obtain ⟨Ao124, co124, eo124⟩ := Kd.R_slice HO287.out
              subst eo124
              obtain ⟨Ao125, co125, eo125⟩ := Kd.R_slice HO_7.out
              subst eo125
              go_wp2_with (first | (go_at_call 43; (with_reducible refine (laws_eqIntS.calls kj56 _ _ t285 _ _ t243 t290 _ ?side1 ?side2 ?side3 ?side4 A123.out).mono ?_); (case side1 => repeat (first | exact (Kd.R_reads' HO287.out).2.2 | (with_reducible refine Kd.C_alloc ?_ _) | (with_reducible refine Kd.C_drewN ?_ _) | (with_reducible refine Kd.C_drew ?_))); (case side2 => exact (Kd.R_reads' HO287.out).2.1); (case side3 => repeat (first | exact (Kd.R_reads' HO_7.out).2.2 | (with_reducible refine Kd.C_alloc ?_ _) | (with_reducible refine Kd.C_drewN ?_ _) | (with_reducible refine Kd.C_drew ?_))); (case side4 => exact (Kd.R_reads' HO_7.out).2.1); rintro e w' ⟨rfl, ⟨nd, rfl⟩⟩))
              go_meet
              case rel => exact ⟨_, (!t290), (by first | rfl | (simp; done) | (simp [*]; done)), H', ⟨by have := HJ11.out; have := HJ56.out; first | omega | exact Nat.le_refl _⟩, ⟨by (try simp only [hl252001_56]); exact Kd.R_nw (Kd.R_mono HO_10.out (fun _ hk => trivial))⟩, ⟨by (try simp only [hl252001_56]); exact Kd.Q_nw (Kd.Q_mono HO_247001.out (fun _ hk => ⟨hk.1.1.1, ⟨hk.1.1.2, hk.2⟩⟩))⟩, ⟨by (try simp only [hl252001_56]); exact Kd.Q_nw (Kd.Q_mono HO_252001.out (fun _ hk => ⟨hk.1.1.1, ⟨hk.1.1.2, hk.2⟩⟩))⟩, ⟨by (try simp only [hl252001_56]); exact Kd.Q_nw (Kd.Q_mono HO_260001.out (fun _ hk => ⟨hk.1.1.1, ⟨hk.1.1.2, hk.2⟩⟩))⟩, ⟨by (try simp only [hl252001_56]); exact Kd.Q_nw (Kd.Q_mono HO284.out (fun _ hk => ⟨hk.1.1.1.2, ⟨hk.1.1.2, hk.1.2⟩⟩))⟩, ⟨by (try simp only [hl252001_56]); exact blk_nw BK233.out⟩, ⟨by (try simp only [hl252001_56]); exact blk_nw BK246.out⟩, ⟨by (try simp only [hl252001_56]); exact blk_nw BK251.out⟩, ⟨by (try simp only [hl252001_56]); exact blk_nw BK259.out⟩, ⟨by (try simp only [hl252001_56]); exact blk_nw BK288.out⟩, ⟨by exact bel0⟩⟩
             ·replace c122 := Bool.eq_false_iff.mpr c122
              subst c122
              rw [if_neg (show ¬ (false = true) by decide)] at H
              have H' := Aside0.mk H
              clear H
              go_wp2
              go_meet
              case rel => exact ⟨_, (true), (by first | rfl | (simp; done) | (simp [*]; done)), H', ⟨by have := HJ11.out; have := HJ56.out; first | omega | exact Nat.le_refl _⟩, ⟨by (try simp only [hl252001_56]); exact Kd.R_nw (Kd.R_mono HO_10.out (fun _ hk => trivial))⟩, ⟨by (try simp only [hl252001_56]); exact Kd.Q_nw (Kd.Q_mono HO_247001.out (fun _ hk => ⟨hk.1.1.1, ⟨hk.1.1.2, hk.2⟩⟩))⟩, ⟨by (try simp only [hl252001_56]); exact Kd.Q_nw (Kd.Q_mono HO_252001.out (fun _ hk => ⟨hk.1.1.1, ⟨hk.1.1.2, hk.2⟩⟩))⟩, ⟨by (try simp only [hl252001_56]); exact Kd.Q_nw (Kd.Q_mono HO_260001.out (fun _ hk => ⟨hk.1.1.1, ⟨hk.1.1.2, hk.2⟩⟩))⟩, ⟨by (try simp only [hl252001_56]); exact Kd.Q_nw (Kd.Q_mono HO284.out (fun _ hk => ⟨hk.1.1.1.2, ⟨hk.1.1.2, hk.1.2⟩⟩))⟩, ⟨by (try simp only [hl252001_56]); exact blk_nw BK233.out⟩, ⟨by (try simp only [hl252001_56]); exact blk_nw BK246.out⟩, ⟨by (try simp only [hl252001_56]); exact blk_nw BK251.out⟩, ⟨by (try simp only [hl252001_56]); exact blk_nw BK259.out⟩, ⟨by (try simp only [hl252001_56]); exact blk_nw BK288.out⟩, ⟨by exact bel0⟩⟩
            case rest =>
             clear HC96; try clear c1; try clear c2; try clear p2; try clear c3; try clear c4; try clear c5; try clear c6; try clear c7; try clear c7b0; try clear c8; try clear c9; try clear c10; try clear c11; try clear c12; try clear c18; try clear c24; try clear c25; try clear c30; try clear c31; try clear c32; try clear c34; try clear c35; try clear c36; try clear c37; try clear c38; try clear c40; try clear c41; try clear c42; try clear c44; try clear c45; try clear c48; try clear c55; try clear c58; try clear c59; try clear c60; try clear c63; try clear c63b0; try clear c65; try clear c66; try clear c67; try clear c69; try clear c70; try clear c73; try clear c77; try clear c81; try clear c82; try clear c83; try clear c90; try clear c90b0; try clear c92; try clear c92b0; try clear c93; try clear c93b0; try clear c93b1; try clear c97; try clear c98; try clear c99; try clear c105; try clear c106; try clear c107; try clear c108; try clear c112; try clear c113; try clear c114; try clear c115; try clear c117; try clear c118; try clear c119; try clear c122; try clear hcz100_0; try clear hcz100_1; try clear hcz109_0; try clear hcz109_1; try clear hcz116_0; try clear hcz116_1; try clear hcz120_0; try clear hcz120_1; try clear hcz13_0; try clear hcz13_1; try clear hcz19_0; try clear hcz19_1; try clear hcz21_0; try clear hcz21_1; try clear hcz26_0; try clear hcz26_1; try clear hcz33_0; try clear hcz33_1; try clear hcz39_0; try clear hcz39_1; try clear hcz42_0; try clear hcz42_1; try clear hcz5_0; try clear hcz5_1; try clear hcz61_0; try clear hcz61_1; try clear hcz68_0; try clear hcz68_1; try clear hcz71_0; try clear hcz71_1; try clear hcz84_0; try clear hcz84_1; try clear hcz88_0; try clear hcz88_1; try clear hfz100_0; try clear hfz100_1; try clear hfz109_0; try clear hfz109_1; try clear hfz116_0; try clear hfz116_1; try clear hfz120_0; try clear hfz120_1; try clear hfz13_0; try clear hfz13_1; try clear hfz19_0; try clear hfz19_1; try clear hfz21_0; try clear hfz21_1; try clear hfz26_0; try clear hfz26_1; try clear hfz33_0; try clear hfz33_1; try clear hfz39_0; try clear hfz39_1; try clear hfz42_0; try clear hfz42_1; try clear hfz5_0; try clear hfz5_1; try clear hfz61_0; try clear hfz61_1; try clear hfz68_0; try clear hfz68_1; try clear hfz71_0; try clear hfz71_1; try clear hfz84_0; try clear hfz84_1; try clear hfz88_0; try clear hfz88_1; try clear p2
             obtain ⟨kq, x103_95, rfl, HA, HJ95, HO_10, HO_247001, HO_252001, HO_260001, HO_289001, BK233, BK246, BK251, BK259, BK288, HB⟩ := hcut
             have hl10_95 := (Kd.R_reads' HO_10.out).1
             rw [hl10_95] at HO_10
             (try simp only [hl10_95])
             (try simp only [hl10_95] at BK233)
             (try simp only [hl10_95] at BK246)
             (try simp only [hl10_95] at BK251)
             (try simp only [hl10_95] at BK259)
             (try simp only [hl10_95] at BK288)
             (try simp only [hl10_95] at HO_247001)
             (try simp only [hl10_95] at HO_252001)
             (try simp only [hl10_95] at HO_260001)
             (try simp only [hl10_95] at HO_289001)
             have hl260001_95 := (Kd.Q_reads' HO_260001.out).1
             rw [hl260001_95] at HO_260001
             (try simp only [hl260001_95])
             (try simp only [hl260001_95] at BK233)
             (try simp only [hl260001_95] at BK246)
             (try simp only [hl260001_95] at BK251)
             (try simp only [hl260001_95] at BK259)
             (try simp only [hl260001_95] at BK288)
             (try simp only [hl260001_95] at HO_10)
             (try simp only [hl260001_95] at HO_247001)
             (try simp only [hl260001_95] at HO_252001)
             (try simp only [hl260001_95] at HO_289001)
             cases kq with
             | zero => exact absurd HA.out (by simp [laws_FnExactWheelTick.j2])
             | succ kj95 =>
              have H := HA.out; clear HA
              simp only [laws_FnExactWheelTick.j2] at H
              by_cases c126 : x103_95 = true
              ·subst c126; rw [if_pos rfl] at H
               obtain rfl := Option.some.inj H
               go_wp2
               go_ret
               exact ⟨by first | rfl | (simp [errW_none, errW_some] <;> rfl) | (simp [*, errW_none, errW_some] <;> rfl), by exact bel0⟩
              ·replace c126 := Bool.eq_false_iff.mpr c126
               subst c126
               rw [if_neg (show ¬ (false = true) by decide)] at H
               replace H := Option.bind_eq_some_iff.mp H; obtain ⟨t291, A1270, H⟩ := H; have A127 := Aside0.mk A1270; clear A1270; have hnb128 := NB259_233.out; have hnc128 := NB233_259.out; have hnb129 := NB259_246.out; have hnc129 := NB246_259.out; have hnb130 := NB259_251.out; have hnc130 := NB251_259.out; have hnb131 := NB259_288.out; have hnc131 := NB288_259.out; obtain ⟨hcz132_0, hcz132_1⟩ := blkz2 BK259.out; have hfz132_0 := blkf BK259.out
               replace H := Aside0.mk H
               go_wp2_with (first | ((with_reducible refine gate_callee (f := 36) rfl ?_); refine goesL_ (some 106) rfl rfl Try.func36 (by kernel_rfl) rfl #[.agg #[.int .i64 t252, .slice Ao34 t272.length co34], .int .i64 1] rfl (by (try simp only [List.map_toArray, List.map_cons, List.map_nil]); first | done | rfl | (simp only [List.length_drop, List.length_take]; rfl)) ?_; (with_reducible refine (laws_heldWheel.calls kj95 t252 _ _ t272 1 t291 _ ?side1 ?side2 A127.out).mono ?_); (case side1 => repeat (first | exact (Kd.Q_reads' HO_260001.out).2.2 | (with_reducible refine Kd.C_alloc ?_ _) | (with_reducible refine Kd.C_drewN ?_ _) | (with_reducible refine Kd.C_drew ?_))); (case side2 => exact (Kd.Q_reads' HO_260001.out).2.1); rintro e w133 ⟨rfl, hb⟩; refine ⟨_, rfl, ?_⟩; have n_ := an (Kd.R_below (by exact Kd.R_nw HO_10.out) hb) (an (Kd.Q_below (by exact Kd.Q_nw HO_247001.out) hb) (an (Kd.Q_below (by exact Kd.Q_nw HO_252001.out) hb) (an (Kd.Q_below (by exact Kd.Q_nw HO_260001.out) hb) (an (Kd.Q_below (by exact Kd.Q_nw HO_289001.out) hb) (an (blk_below (blk_nw BK233.out) hb) (an (blk_below (blk_nw BK246.out) hb) (an (blk_below (blk_nw BK251.out) hb) (an (blk_below (blk_nw BK259.out) hb) (an (blk_below (blk_nw BK288.out) hb) (an (below_step (by exact bel0) hb) (trivial))))))))))); clear HO_10 HO_247001 HO_252001 HO_260001 HO_289001 BK233 BK246 BK251 BK259 BK288 HB; obtain ⟨HO_10, HO_247001, HO_252001, HO_260001, HO_289001, BK233, BK246, BK251, BK259, BK288, HB, -⟩ := n_; (try clear hb); (try clear hb2); (try clear hk); (try clear hi); refine Stop.out ?_))
               refine Stop.mk ?_
               replace H := H.out
               by_cases c134 : t291 < 0
               ·rw [if_pos c134] at H; have c134b0 : decide (t291 < 0) = true := decide_eq_true c134; clear c134; (try simp only [c134b0])
                obtain rfl := Option.some.inj H
                go_wp2
                go_ret
                exact ⟨by first | rfl | (simp [errW_none, errW_some] <;> rfl) | (simp [*, errW_none, errW_some] <;> rfl), by exact bel0⟩
               ·rw [if_neg c134] at H; have c134b0 : decide (t291 < 0) = false := decide_eq_false c134; clear c134; (try simp only [c134b0]); replace H := Option.bind_eq_some_iff.mp H; obtain ⟨t292, A1350, H⟩ := H; have A135 := Aside0.mk A1350; clear A1350
                replace H := Aside0.mk H
                go_wp2_with (first | ((with_reducible refine gate_callee (f := 45) rfl ?_); refine goesL_ (some 111) rfl rfl Try.func45 (by kernel_rfl) rfl #[.slice Ao86 t274.length co86, .int .i64 t291] rfl (by (try simp only [List.map_toArray, List.map_cons, List.map_nil]); first | done | rfl | (simp only [List.length_drop, List.length_take]; rfl)) ?_; (with_reducible refine (laws_heldIntS.calls kj95 _ _ t274 t291 t292 _ ?side1 ?side2 A135.out).mono ?_); (case side1 => repeat (first | exact (Kd.R_reads' HO_10.out).2.2 | (with_reducible refine Kd.C_alloc ?_ _) | (with_reducible refine Kd.C_drewN ?_ _) | (with_reducible refine Kd.C_drew ?_))); (case side2 => exact (Kd.R_reads' HO_10.out).2.1); rintro e w' ⟨rfl, ⟨nd, rfl⟩⟩; refine ⟨_, rfl, ?_⟩; refine Stop.out ?_))
                refine Stop.mk ?_
                replace H := H.out
                by_cases c136 : t292 < 0
                ·rw [if_pos c136] at H; have c136b0 : decide (t292 < 0) = true := decide_eq_true c136; clear c136; (try simp only [c136b0])
                 obtain rfl := Option.some.inj H
                 go_wp2
                 go_ret
                 exact ⟨by first | rfl | (simp [errW_none, errW_some] <;> rfl) | (simp [*, errW_none, errW_some] <;> rfl), by exact bel0⟩
                ·rw [if_neg c136] at H; have c136b0 : decide (t292 < 0) = false := decide_eq_false c136; clear c136; (try simp only [c136b0])
                 by_cases c137 : t292 = t273
                 ·rw [if_pos c137] at H; have c137b0 : (t292 == t273) = true := beq_iff_eq.mpr c137; have c137b1 : (t292 != t273) = false := bne_eq_false_iff_eq.mpr c137; clear c137
                  obtain rfl := Option.some.inj H
                  go_wp2
                  go_ret
                  exact ⟨by first | rfl | (simp [errW_none, errW_some] <;> rfl) | (simp [*, errW_none, errW_some] <;> rfl), by exact bel0⟩
                 ·rw [if_neg c137] at H; have c137b0 : (t292 == t273) = false := beq_eq_false_iff_ne.mpr c137; have c137b1 : (t292 != t273) = true := bne_iff_ne.mpr c137
                  obtain rfl := Option.some.inj H
                  go_wp2
                  go_ret
                  exact ⟨by first | rfl | (simp [errW_none, errW_some] <;> rfl) | (simp [*, errW_none, errW_some] <;> rfl), by exact bel0⟩
           ·rw [if_neg c93] at H; have c93b0 : (t276 == t273) = false := beq_eq_false_iff_ne.mpr c93; have c93b1 : (t276 != t273) = true := bne_iff_ne.mpr c93
            obtain rfl := Option.some.inj H
            go_wp2
            go_ret
            exact ⟨by first | rfl | (simp [errW_none, errW_some] <;> rfl) | (simp [*, errW_none, errW_some] <;> rfl), by exact bel0⟩
     ·replace c55 := Bool.eq_false_iff.mpr c55
      subst c55
      rw [if_neg (show ¬ (false = true) by decide)] at H
      obtain rfl := Option.some.inj H
      go_wp2
      go_ret
      exact ⟨by first | rfl | (simp [errW_none, errW_some] <;> rfl) | (simp [*, errW_none, errW_some] <;> rfl), by exact bel0⟩

end Go.Proofs.Ytigoajblljolcaa.XFnExactWheelTick
