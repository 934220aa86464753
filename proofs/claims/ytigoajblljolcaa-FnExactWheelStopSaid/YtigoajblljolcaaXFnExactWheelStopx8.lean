-- Written by this session's own program (xprint.py) over the kit's print.
import Derived.Test.YtigoajblljolcaaXFnExactWheelStopx0
import Derived.Test.YtigoajblljolcaaXFnExactWheelStopx1
import Derived.Test.YtigoajblljolcaaXFnExactWheelStopx3
import Derived.Test.YtigoajblljolcaaXFnExactWheelStopx6
import Derived.Test.YtigoajblljolcaaXFnExactWheelStopx7
namespace Go.Proofs.Ytigoajblljolcaa.XFnExactWheelStop
open Go.RowKit Go.Proofs.YtigoajblljolcaaW.PrintWords Go.Proofs.YtigoajblljolcaaW.PrintLast Go.Proofs.YtigoajblljolcaaW.PrintMore
attribute [local go_sem] max2_int min2_int max_two min_two max_three min_three max_four min_four   -- for this text's walks alone
set_option linter.unusedVariables false
set_option linter.unusedSimpArgs false

/-! ### laws_FnExactWheelStop: function 5 -/
mutual
def laws_FnExactWheelStop.j0 : Nat → Int → Bool → Bool → Bool → Int → List (S170) → Int → List (S133) → Int → List (S133) → Int → List (S133) → Option (Bool)
  | 0, _, _, _, _, _, _, _, _, _, _, _, _ => none
  | k + 1, x1, x7, x10, x44, x237000, x237001, x248000, x248001, x253000, x253001, x259000, x259001 => if x44 = true then (some false) else ((laws_toWheel.f k x237000 x237001).bind fun bt260 => ((laws_eqWheel.f k x253000 x253001 bt260.1 bt260.2).bind fun t264 => (if t264 = true then ((laws_markWheel.f k x253000 x253001 1).bind fun bt265 => (if bt265.1 < 0 then (laws_FnExactWheelStop.j1 k x1 x7 true x237000 x237001 x248000 x248001 x259000 x259001) else ((laws_eqWheel.f k x259000 x259001 x248000 x248001).bind fun t267 => (if t267 = true then (laws_FnExactWheelStop.j1 k x1 x7 (x10 != x7) x237000 x237001 x248000 x248001 x259000 x259001) else (laws_FnExactWheelStop.j1 k x1 x7 true x237000 x237001 x248000 x248001 x259000 x259001))))) else (some false))))
def laws_FnExactWheelStop.j1 : Nat → Int → Bool → Bool → Int → List (S170) → Int → List (S133) → Int → List (S133) → Option (Bool)
  | 0, _, _, _, _, _, _, _, _, _ => none
  | k + 1, x1, x7, x65, x237000, x237001, x248000, x248001, x259000, x259001 => if x65 = true then (some false) else ((laws_markWheel.f k x259000 x259001 1).bind fun bt268 => ((laws_heldWheel.f k x259000 bt268.2 1).bind fun t270 => (if t270 < 0 then (some false) else (if t270 = bt268.1 then ((laws_toWheel.f k x237000 x237001).bind fun bt271 => ((impl_WheelStop.f k bt271.1 bt271.2 x1).bind fun bt275 => ((laws_eqWheel.f k bt275.1 bt275.2.1 x248000 x248001).bind fun t281 => (if t281 = true then (laws_FnExactWheelStop.j2 k bt268.1 (bt275.2.2 != x7) x259000 bt268.2) else (laws_FnExactWheelStop.j2 k bt268.1 true x259000 bt268.2))))) else (some false)))))
def laws_FnExactWheelStop.j2 : Nat → Int → Bool → Int → List (S133) → Option (Bool)
  | 0, _, _, _, _ => none
  | k + 1, x12, x92, x259000, x259001 => if x92 = true then (some false) else ((laws_heldWheel.f k x259000 x259001 1).bind fun t282 => (if t282 < 0 then (some false) else (if t282 = x12 then (some true) else (some false))))
end
def laws_FnExactWheelStop.f (k : Nat) (a0_0 : Int) (l0_1 : List (S170)) (a1 : Int) : Option (Bool) := (laws_szWheel.f a0_0 l0_1 1048576).bind fun t237 => (if t237 < 0 then (some true) else ((laws_toWheel.f k a0_0 l0_1).bind fun bt238 => ((spec_WheelStop.f k bt238.1 bt238.2 a1).bind fun bt242 => ((laws_toWheel.f k a0_0 l0_1).bind fun bt248 => ((impl_WheelStop.f k bt248.1 bt248.2 a1).bind fun bt253 => ((laws_eqWheel.f k bt253.1 bt253.2.1 bt242.1 bt242.2.1).bind fun t259 => (if t259 = true then (laws_FnExactWheelStop.j0 k a1 bt242.2.2 bt253.2.2 (bt253.2.2 != bt242.2.2) a0_0 l0_1 bt242.1 bt242.2.1 bt248.1 bt248.2 bt253.1 bt253.2.1) else (laws_FnExactWheelStop.j0 k a1 bt242.2.2 bt253.2.2 true a0_0 l0_1 bt242.1 bt242.2.1 bt248.1 bt248.2 bt253.1 bt253.2.1))))))))
theorem laws_FnExactWheelStop.mono_l : ∀ k, (∀ y0 y1 y2 y3 y4 y5 y6 y7 y8 y9 y10 y11, LeO (laws_FnExactWheelStop.j0 k y0 y1 y2 y3 y4 y5 y6 y7 y8 y9 y10 y11) (laws_FnExactWheelStop.j0 (k + 1) y0 y1 y2 y3 y4 y5 y6 y7 y8 y9 y10 y11)) ∧ (∀ y0 y1 y2 y3 y4 y5 y6 y7 y8, LeO (laws_FnExactWheelStop.j1 k y0 y1 y2 y3 y4 y5 y6 y7 y8) (laws_FnExactWheelStop.j1 (k + 1) y0 y1 y2 y3 y4 y5 y6 y7 y8)) ∧ (∀ y0 y1 y2 y3, LeO (laws_FnExactWheelStop.j2 k y0 y1 y2 y3) (laws_FnExactWheelStop.j2 (k + 1) y0 y1 y2 y3))
 | 0 => ⟨fun _ _ _ _ _ _ _ _ _ _ _ _ r h => by simp [laws_FnExactWheelStop.j0] at h, fun _ _ _ _ _ _ _ _ _ r h => by simp [laws_FnExactWheelStop.j1] at h, fun _ _ _ _ r h => by simp [laws_FnExactWheelStop.j2] at h⟩
 | k + 1 => by
  obtain ⟨ih0, ih1, ih2⟩ := laws_FnExactWheelStop.mono_l k
  refine ⟨?_, ?_, ?_⟩
  ·intro y0 y1 y2 y3 y4 y5 y6 y7 y8 y9 y10 y11
   unfold laws_FnExactWheelStop.j0
   repeat' first
   | (with_reducible exact ih0 _ _ _ _ _ _ _ _ _ _ _ _)
   | (with_reducible exact ih1 _ _ _ _ _ _ _ _ _)
   | (with_reducible exact ih2 _ _ _ _)
   | (with_reducible exact impl_WheelStop.mono _ _ _ _)
   | (with_reducible exact laws_eqWheel.mono _ _ _ _ _)
   | (with_reducible exact laws_heldWheel.mono _ _ _ _)
   | (with_reducible exact laws_markWheel.mono _ _ _ _)
   | (with_reducible exact laws_toWheel.mono _ _ _)
   | (with_reducible exact spec_WheelStop.mono _ _ _ _)
   | (with_reducible exact LeO.refl _)
   | (with_reducible exact LeO.none _)
   | (with_reducible refine LeO.ite ?_ ?_)
   | (with_reducible refine LeO.bind ?_ (fun _ => ?_))
   | exact ih0 _ _ _ _ _ _ _ _ _ _ _ _
   | exact ih1 _ _ _ _ _ _ _ _ _
   | exact ih2 _ _ _ _
   | exact impl_WheelStop.mono _ _ _ _
   | exact laws_eqWheel.mono _ _ _ _ _
   | exact laws_heldWheel.mono _ _ _ _
   | exact laws_markWheel.mono _ _ _ _
   | exact laws_toWheel.mono _ _ _
   | exact spec_WheelStop.mono _ _ _ _
   | exact LeO.none _
   | refine LeO.ite ?_ ?_
   | refine LeO.bind ?_ (fun _ => ?_)
  ·intro y0 y1 y2 y3 y4 y5 y6 y7 y8
   unfold laws_FnExactWheelStop.j1
   repeat' first
   | (with_reducible exact ih0 _ _ _ _ _ _ _ _ _ _ _ _)
   | (with_reducible exact ih1 _ _ _ _ _ _ _ _ _)
   | (with_reducible exact ih2 _ _ _ _)
   | (with_reducible exact impl_WheelStop.mono _ _ _ _)
   | (with_reducible exact laws_eqWheel.mono _ _ _ _ _)
   | (with_reducible exact laws_heldWheel.mono _ _ _ _)
   | (with_reducible exact laws_markWheel.mono _ _ _ _)
   | (with_reducible exact laws_toWheel.mono _ _ _)
   | (with_reducible exact spec_WheelStop.mono _ _ _ _)
   | (with_reducible exact LeO.refl _)
   | (with_reducible exact LeO.none _)
   | (with_reducible refine LeO.ite ?_ ?_)
   | (with_reducible refine LeO.bind ?_ (fun _ => ?_))
   | exact ih0 _ _ _ _ _ _ _ _ _ _ _ _
   | exact ih1 _ _ _ _ _ _ _ _ _
   | exact ih2 _ _ _ _
   | exact impl_WheelStop.mono _ _ _ _
   | exact laws_eqWheel.mono _ _ _ _ _
   | exact laws_heldWheel.mono _ _ _ _
   | exact laws_markWheel.mono _ _ _ _
   | exact laws_toWheel.mono _ _ _
   | exact spec_WheelStop.mono _ _ _ _
   | exact LeO.none _
   | refine LeO.ite ?_ ?_
   | refine LeO.bind ?_ (fun _ => ?_)
  ·intro y0 y1 y2 y3
   unfold laws_FnExactWheelStop.j2
   repeat' first
   | (with_reducible exact ih0 _ _ _ _ _ _ _ _ _ _ _ _)
   | (with_reducible exact ih1 _ _ _ _ _ _ _ _ _)
   | (with_reducible exact ih2 _ _ _ _)
   | (with_reducible exact impl_WheelStop.mono _ _ _ _)
   | (with_reducible exact laws_eqWheel.mono _ _ _ _ _)
   | (with_reducible exact laws_heldWheel.mono _ _ _ _)
   | (with_reducible exact laws_markWheel.mono _ _ _ _)
   | (with_reducible exact laws_toWheel.mono _ _ _)
   | (with_reducible exact spec_WheelStop.mono _ _ _ _)
   | (with_reducible exact LeO.refl _)
   | (with_reducible exact LeO.none _)
   | (with_reducible refine LeO.ite ?_ ?_)
   | (with_reducible refine LeO.bind ?_ (fun _ => ?_))
   | exact ih0 _ _ _ _ _ _ _ _ _ _ _ _
   | exact ih1 _ _ _ _ _ _ _ _ _
   | exact ih2 _ _ _ _
   | exact impl_WheelStop.mono _ _ _ _
   | exact laws_eqWheel.mono _ _ _ _ _
   | exact laws_heldWheel.mono _ _ _ _
   | exact laws_markWheel.mono _ _ _ _
   | exact laws_toWheel.mono _ _ _
   | exact spec_WheelStop.mono _ _ _ _
   | exact LeO.none _
   | refine LeO.ite ?_ ?_
   | refine LeO.bind ?_ (fun _ => ?_)
theorem laws_FnExactWheelStop.mono : ∀ a0 a1 a2 k, LeO (laws_FnExactWheelStop.f k a0 a1 a2) (laws_FnExactWheelStop.f (k + 1) a0 a1 a2) := by
 intro a0 a1 a2 k
 obtain ⟨ih0, ih1, ih2⟩ := laws_FnExactWheelStop.mono_l k
 unfold laws_FnExactWheelStop.f
 repeat' first
   | (with_reducible exact ih0 _ _ _ _ _ _ _ _ _ _ _ _)
   | (with_reducible exact ih1 _ _ _ _ _ _ _ _ _)
   | (with_reducible exact ih2 _ _ _ _)
   | (with_reducible exact impl_WheelStop.mono _ _ _ _)
   | (with_reducible exact laws_eqWheel.mono _ _ _ _ _)
   | (with_reducible exact laws_heldWheel.mono _ _ _ _)
   | (with_reducible exact laws_markWheel.mono _ _ _ _)
   | (with_reducible exact laws_toWheel.mono _ _ _)
   | (with_reducible exact spec_WheelStop.mono _ _ _ _)
   | (with_reducible exact LeO.refl _)
   | (with_reducible exact LeO.none _)
   | (with_reducible refine LeO.ite ?_ ?_)
   | (with_reducible refine LeO.bind ?_ (fun _ => ?_))
   | exact ih0 _ _ _ _ _ _ _ _ _ _ _ _
   | exact ih1 _ _ _ _ _ _ _ _ _
   | exact ih2 _ _ _ _
   | exact impl_WheelStop.mono _ _ _ _
   | exact laws_eqWheel.mono _ _ _ _ _
   | exact laws_heldWheel.mono _ _ _ _
   | exact laws_markWheel.mono _ _ _ _
   | exact laws_toWheel.mono _ _ _
   | exact spec_WheelStop.mono _ _ _ _
   | exact LeO.none _
   | refine LeO.ite ?_ ?_
   | refine LeO.bind ?_ (fun _ => ?_)
set_option maxHeartbeats 8000000 in
set_option maxRecDepth 100000 in
theorem laws_FnExactWheelStop.calls (k : Nat) (a0_0 : Int) (A0_1 : Option Addr) (c0_1 : Nat) (l0_1 : List (S170)) (a1 : Int) (r : Bool) (w : World) (hr0_1 : Kd.C k170 w A0_1 l0_1.length l0_1) (hc0_1 : l0_1.length ≤ c0_1) (h : laws_FnExactWheelStop.f k a0_0 l0_1 a1 = some r) :
  Calls Try.prog 5 #[.agg #[.int .i64 a0_0, .slice A0_1 l0_1.length c0_1], .int .i64 a1] w fun e w' => e = .returned (.bool r) ∧ Below w.heap.size w w' := by
 have hu50 := Try.underlying50
 have hu54 := Try.underlying54
 have HR0_1 := Aside0.mk hr0_1; have HC0_1 := Aside0.mk hc0_1; clear hr0_1 hc0_1
 have HB := Aside0.mk (Below.refl w.heap.size w)
 have H : ((laws_szWheel.f a0_0 l0_1 1048576).bind fun t237 => (if t237 < 0 then (some true) else ((laws_toWheel.f k a0_0 l0_1).bind fun bt238 => ((spec_WheelStop.f k bt238.1 bt238.2 a1).bind fun bt242 => ((laws_toWheel.f k a0_0 l0_1).bind fun bt248 => ((impl_WheelStop.f k bt248.1 bt248.2 a1).bind fun bt253 => ((laws_eqWheel.f k bt253.1 bt253.2.1 bt242.1 bt242.2.1).bind fun t259 => (if t259 = true then (laws_FnExactWheelStop.j0 k a1 bt242.2.2 bt253.2.2 (bt253.2.2 != bt242.2.2) a0_0 l0_1 bt242.1 bt242.2.1 bt248.1 bt248.2 bt253.1 bt253.2.1) else (laws_FnExactWheelStop.j0 k a1 bt242.2.2 bt253.2.2 true a0_0 l0_1 bt242.1 bt242.2.1 bt248.1 bt248.2 bt253.1 bt253.2.1))))))))) = some r := h
 clear h; replace H := Option.bind_eq_some_iff.mp H; obtain ⟨t237, A30, H⟩ := H; have A3 := Aside0.mk A30; clear A30; go_enter Try.func5, Try.ntmps5
 replace H := Aside0.mk H
 go_wp2_with (first | ((with_reducible refine gate_dst (N := 2) rfl ?_); refine box_event ?hg (N := 2) ?hd (cs := #[.int .i64 a0_0, .slice A0_1 l0_1.length c0_1]) (t := 50) ?hr ?_; (case hd => rfl); (case hg => rfl); (case hr => first | (go_simp; done) | (go_simp; rfl)); intro gb236 hg w4 hbox hb; have n_ := an (below_step (by exact bel0) hb) (an (hbox) (an ((by rw [hg]; exact (below_size (by exact bel0)) : w.heap.size ≤ gb236)) (an ((by rw [hg]; exact (below_size (by exact bel0)) : w.heap.size ≤ gb236)) (trivial)))); clear HB; obtain ⟨HB, BK236, GW236, GE236, -⟩ := n_; clear hb hbox hg; obtain ⟨hcz5_0, hcz5_1⟩ := blkz2 BK236.out; have hfz5_0 := blkf BK236.out) | ((with_reducible refine gate_callee (f := 30) rfl ?_); refine goesL_ (some 18) rfl rfl Try.func30 (by kernel_rfl) rfl #[.agg #[.int .i64 a0_0, .slice A0_1 l0_1.length c0_1], .int .i64 1048576] rfl (by (try simp only [List.map_toArray, List.map_cons, List.map_nil]); first | done | rfl | (simp only [List.length_drop, List.length_take]; rfl)) ?_; (with_reducible refine (laws_szWheel.calls a0_0 _ _ l0_1 1048576 t237 _ ?side1 ?side2 A3.out).mono ?_); (case side1 => repeat (first | exact (Kd.C_below HR0_1.out HB.out) | (with_reducible refine Kd.C_alloc ?_ _) | (with_reducible refine Kd.C_drewN ?_ _) | (with_reducible refine Kd.C_drew ?_))); (case side2 => exact HC0_1.out); rintro e w6 ⟨rfl, hb⟩; refine ⟨_, rfl, ?_⟩; have n_ := an (blk_below (blk_nw BK236.out) hb) (an (below_step (by exact bel0) hb) (trivial)); clear BK236 HB; obtain ⟨BK236, HB, -⟩ := n_; (try clear hb); (try clear hb2); (try clear hk); (try clear hi); refine Stop.out ?_))
 refine Stop.mk ?_
 replace H := H.out
 by_cases c7 : t237 < 0
 ·rw [if_pos c7] at H; have c7b0 : decide (t237 < 0) = true := decide_eq_true c7; clear c7; (try simp only [c7b0])
  obtain rfl := Option.some.inj H
  go_wp2
  go_ret
  exact ⟨by first | rfl | (simp [errW_none, errW_some] <;> rfl) | (simp [*, errW_none, errW_some] <;> rfl), by exact bel0⟩
 ·rw [if_neg c7] at H; have c7b0 : decide (t237 < 0) = false := decide_eq_false c7; clear c7; (try simp only [c7b0]); replace H := Option.bind_eq_some_iff.mp H
  obtain ⟨⟨t238, t239⟩, A80, H⟩ := H
  replace H : ((spec_WheelStop.f k t238 t239 a1).bind fun bt242 => ((laws_toWheel.f k a0_0 l0_1).bind fun bt248 => ((impl_WheelStop.f k bt248.1 bt248.2 a1).bind fun bt253 => ((laws_eqWheel.f k bt253.1 bt253.2.1 bt242.1 bt242.2.1).bind fun t259 => (if t259 = true then (laws_FnExactWheelStop.j0 k a1 bt242.2.2 bt253.2.2 (bt253.2.2 != bt242.2.2) a0_0 l0_1 bt242.1 bt242.2.1 bt248.1 bt248.2 bt253.1 bt253.2.1) else (laws_FnExactWheelStop.j0 k a1 bt242.2.2 bt253.2.2 true a0_0 l0_1 bt242.1 bt242.2.1 bt248.1 bt248.2 bt253.1 bt253.2.1)))))) = some r := H
  have A8 := Aside0.mk A80; clear A80; replace H := Option.bind_eq_some_iff.mp H
  obtain ⟨⟨t242, t243, t246⟩, A90, H⟩ := H
  replace H : ((laws_toWheel.f k a0_0 l0_1).bind fun bt248 => ((impl_WheelStop.f k bt248.1 bt248.2 a1).bind fun bt253 => ((laws_eqWheel.f k bt253.1 bt253.2.1 t242 t243).bind fun t259 => (if t259 = true then (laws_FnExactWheelStop.j0 k a1 t246 bt253.2.2 (bt253.2.2 != t246) a0_0 l0_1 t242 t243 bt248.1 bt248.2 bt253.1 bt253.2.1) else (laws_FnExactWheelStop.j0 k a1 t246 bt253.2.2 true a0_0 l0_1 t242 t243 bt248.1 bt248.2 bt253.1 bt253.2.1))))) = some r := H
  have A9 := Aside0.mk A90; clear A90; replace H := Option.bind_eq_some_iff.mp H
  obtain ⟨⟨t248, t249⟩, A100, H⟩ := H
  replace H : ((impl_WheelStop.f k t248 t249 a1).bind fun bt253 => ((laws_eqWheel.f k bt253.1 bt253.2.1 t242 t243).bind fun t259 => (if t259 = true then (laws_FnExactWheelStop.j0 k a1 t246 bt253.2.2 (bt253.2.2 != t246) a0_0 l0_1 t242 t243 t248 t249 bt253.1 bt253.2.1) else (laws_FnExactWheelStop.j0 k a1 t246 bt253.2.2 true a0_0 l0_1 t242 t243 t248 t249 bt253.1 bt253.2.1)))) = some r := H
  have A10 := Aside0.mk A100; clear A100; replace H := Option.bind_eq_some_iff.mp H
  obtain ⟨⟨t253, t254, t257⟩, A110, H⟩ := H
  replace H : ((laws_eqWheel.f k t253 t254 t242 t243).bind fun t259 => (if t259 = true then (laws_FnExactWheelStop.j0 k a1 t246 t257 (t257 != t246) a0_0 l0_1 t242 t243 t248 t249 t253 t254) else (laws_FnExactWheelStop.j0 k a1 t246 t257 true a0_0 l0_1 t242 t243 t248 t249 t253 t254))) = some r := H
  have A11 := Aside0.mk A110; clear A110; have HC12 := Aside0.mk H; clear H; obtain ⟨hcz13_0, hcz13_1⟩ := blkz2 BK236.out; have hfz13_0 := blkf BK236.out
  go_upto_region 8 with (first | ((with_reducible refine gate_callee (f := 32) rfl ?_); refine goesL_ (some 23) rfl rfl Try.func32 (by kernel_rfl) rfl #[.agg #[.int .i64 a0_0, .slice A0_1 l0_1.length c0_1]] rfl (by (try simp only [List.map_toArray, List.map_cons, List.map_nil]); first | done | rfl | (simp only [List.length_drop, List.length_take]; rfl)) ?_; (with_reducible refine (laws_toWheel.calls k a0_0 _ _ l0_1 t238 t239 _ ?side1 ?side2 A8.out).mono ?_); (case side1 => repeat (first | exact (Kd.C_below HR0_1.out HB.out) | (with_reducible refine Kd.C_alloc ?_ _) | (with_reducible refine Kd.C_drewN ?_ _) | (with_reducible refine Kd.C_drew ?_))); (case side2 => exact HC0_1.out); rintro e w14 ⟨v240, rfl, ho0, hb⟩; refine ⟨_, rfl, ?_⟩; have n_ := an (Kd.R_lower ho0 (below_size (by exact bel0))) (an (blk_below (blk_nw BK236.out) hb) (an (below_step (by exact bel0) hb) (trivial))); clear BK236 HB; obtain ⟨HO241, BK236, HB, -⟩ := n_; (try clear hb); (try clear hb2); (try clear hk); (try clear hi); (try clear ho0); obtain ⟨Ao15, co15, eo15⟩ := Kd.R_slice HO241.out; subst eo15) | ((with_reducible refine gate_callee (f := 31) rfl ?_); refine goesL_ (some 25) rfl rfl Try.func31 (by kernel_rfl) rfl #[.agg #[.int .i64 t238, .slice Ao15 t239.length co15], .int .i64 a1] rfl (by (try simp only [List.map_toArray, List.map_cons, List.map_nil]); first | done | rfl | (simp only [List.length_drop, List.length_take]; rfl)) ?_; (with_reducible refine (spec_WheelStop.calls k t238 _ _ t239 a1 t242 t243 t246 _ ?side1 ?side2 A9.out).mono ?_); (case side1 => repeat (first | exact (Kd.R_reads' HO241.out).2.2 | (with_reducible refine Kd.C_alloc ?_ _) | (with_reducible refine Kd.C_drewN ?_ _) | (with_reducible refine Kd.C_drew ?_))); (case side2 => exact (Kd.R_reads' HO241.out).2.1); rintro e w16 ⟨v244, rfl, ho0, hb⟩; refine ⟨_, rfl, ?_⟩; have n_ := an (Kd.R_elder' (by exact Kd.R_nw HO241.out) (Kd.R_base ho0) hb) (an (Kd.R_lower (Kd.R_new' ho0 (Kd.R_lt (by exact Kd.R_nw HO241.out))) (below_size (by exact bel0))) (an (blk_below (blk_nw BK236.out) hb) (an (below_step (by exact bel0) hb) (trivial)))); clear HO241 BK236 HB; obtain ⟨HO241, HO245, BK236, HB, -⟩ := n_; (try clear hb); (try clear hb2); (try clear hk); (try clear hi); (try clear ho0)) | ((with_reducible refine gate_dst (N := 6) rfl ?_); refine box_event ?hg (N := 6) ?hd (cs := #[.int .i64 0, .slice none 0 0]) (t := 54) ?hr ?_; (case hd => rfl); (case hg => rfl); (case hr => first | (go_simp; done) | (go_simp; rfl)); intro gb247 hg w17 hbox hb; have n_ := an (Kd.R_below (by exact Kd.R_nw HO241.out) hb) (an (Kd.R_below (by exact Kd.R_nw HO245.out) hb) (an (blk_below (blk_nw BK236.out) hb) (an (below_step (by exact bel0) hb) (an (hbox) (an ((by rw [hg]; exact (below_size (by exact bel0)) : w.heap.size ≤ gb247)) (an ((by rw [hg]; exact (below_size (by exact bel0)) : w.heap.size ≤ gb247)) (an ((by rw [hg]; exact Nat.ne_of_lt (blk_lt (blk_nw BK236.out)) : gb236 ≠ gb247)) (an ((by rw [hg]; exact Nat.ne_of_gt (blk_lt (blk_nw BK236.out)) : gb247 ≠ gb236)) (trivial))))))))); clear HO241 HO245 BK236 HB; obtain ⟨HO241, HO245, BK236, HB, BK247, GW247, GE247, NB236_247, NB247_236, -⟩ := n_; clear hb hbox hg; have hnb18 := NB247_236.out; have hnc18 := NB236_247.out; obtain ⟨hcz19_0, hcz19_1⟩ := blkz2 BK247.out; have hfz19_0 := blkf BK247.out; obtain ⟨Ao20, co20, eo20⟩ := Kd.R_slice HO245.out; subst eo20; obtain ⟨hcz21_0, hcz21_1⟩ := blkz2 BK236.out; have hfz21_0 := blkf BK236.out) | ((with_reducible refine gate_callee (f := 32) rfl ?_); refine goesL_ (some 29) rfl rfl Try.func32 (by kernel_rfl) rfl #[.agg #[.int .i64 a0_0, .slice A0_1 l0_1.length c0_1]] rfl (by (try simp only [List.map_toArray, List.map_cons, List.map_nil]); first | done | rfl | (simp only [List.length_drop, List.length_take]; rfl)) ?_; (with_reducible refine (laws_toWheel.calls k a0_0 _ _ l0_1 t248 t249 _ ?side1 ?side2 A10.out).mono ?_); (case side1 => exact Kd.C_below HR0_1.out (by exact bel0)); (case side2 => exact HC0_1.out); rintro e w22 ⟨v250, rfl, ho0, hb⟩; refine ⟨_, rfl, ?_⟩; have n_ := an (Kd.R_elder' (by exact (Kd.R_farN HO241.out BK247.out)) (Kd.R_base ho0) hb) (an (Kd.R_elder' (by exact (Kd.R_farN HO245.out BK247.out)) (Kd.R_base ho0) hb) (an (Kd.R_lower (Kd.R_new' (Kd.R_new' ho0 (Kd.R_lt (by exact (Kd.R_farN HO241.out BK247.out)))) (Kd.R_lt (by exact (Kd.R_farN HO245.out BK247.out)))) (below_size (by exact bel0))) (an (blk_below (blk_kb BK236.out NB236_247.out) hb) (an (blk_below (g := gb247) (o := .cells #[.int .i64 t242, .slice Ao20 t243.length co20] 54 (0, 0)) (by (with_reducible repeat (first | refine blk_drewN ?_ _ | refine blk_drew ?_ | refine blk_alloc ?_ _)); exact blk_fill2 BK247.out) hb) (an (below_step (by exact bel0) hb) (trivial)))))); clear HO241 HO245 BK236 BK247 HB; obtain ⟨HO241, HO245, HO251, BK236, BK247, HB, -⟩ := n_; (try clear hb); (try clear hb2); (try clear hk); (try clear hi); (try clear ho0)) | ((with_reducible refine gate_dst (N := 8) rfl ?_); refine box_event ?hg (N := 8) ?hd (cs := #[.int .i64 0, .slice none 0 0]) (t := 54) ?hr ?_; (case hd => rfl); (case hg => rfl); (case hr => first | (go_simp; done) | (go_simp; rfl)); intro gb252 hg w23 hbox hb; have n_ := an (Kd.R_below (by exact Kd.R_nw HO241.out) hb) (an (Kd.R_below (by exact Kd.R_nw HO245.out) hb) (an (Kd.R_below (by exact Kd.R_nw HO251.out) hb) (an (blk_below (blk_nw BK236.out) hb) (an (blk_below (blk_nw BK247.out) hb) (an (below_step (by exact bel0) hb) (an (hbox) (an ((by rw [hg]; exact (below_size (by exact bel0)) : w.heap.size ≤ gb252)) (an ((by rw [hg]; exact (below_size (by exact bel0)) : w.heap.size ≤ gb252)) (an ((by rw [hg]; exact Nat.ne_of_lt (blk_lt (blk_nw BK236.out)) : gb236 ≠ gb252)) (an ((by rw [hg]; exact Nat.ne_of_gt (blk_lt (blk_nw BK236.out)) : gb252 ≠ gb236)) (an ((by rw [hg]; exact Nat.ne_of_lt (blk_lt (blk_nw BK247.out)) : gb247 ≠ gb252)) (an ((by rw [hg]; exact Nat.ne_of_gt (blk_lt (blk_nw BK247.out)) : gb252 ≠ gb247)) (trivial))))))))))))); clear HO241 HO245 HO251 BK236 BK247 HB; obtain ⟨HO241, HO245, HO251, BK236, BK247, HB, BK252, GW252, GE252, NB236_252, NB252_236, NB247_252, NB252_247, -⟩ := n_; clear hb hbox hg; have hnb24 := NB252_236.out; have hnc24 := NB236_252.out; have hnb25 := NB252_247.out; have hnc25 := NB247_252.out; obtain ⟨hcz26_0, hcz26_1⟩ := blkz2 BK252.out; have hfz26_0 := blkf BK252.out; obtain ⟨Ao27, co27, eo27⟩ := Kd.R_slice HO251.out; subst eo27) | ((with_reducible refine gate_callee (f := 33) rfl ?_); refine goesL_ (some 33) rfl rfl Try.func33 (by kernel_rfl) rfl #[.agg #[.int .i64 t248, .slice Ao27 t249.length co27], .int .i64 a1] rfl (by (try simp only [List.map_toArray, List.map_cons, List.map_nil]); first | done | rfl | (simp only [List.length_drop, List.length_take]; rfl)) ?_; (with_reducible refine (impl_WheelStop.calls k t248 _ _ t249 a1 t253 t254 t257 _ ?side1 ?side2 A11.out).mono ?_); (case side1 => refine (Kd.R_reads' (e := 133) (base := w.heap.size) (ok := fun k_ => ((True ∧ some k_ ≠ (.slice Ao15 t239.length co15 : Value).ownBlock) ∧ some k_ ≠ (.slice Ao20 t243.length co20 : Value).ownBlock)) (n := t249.length) (c := co27) ?_).2.2; exact (by exact (Kd.R_farN HO251.out BK252.out))); (case side2 => exact (Kd.R_reads' HO251.out).2.1); rintro e w28 ⟨v255, rfl, ho0, hb⟩; refine ⟨_, rfl, ?_⟩; have n_ := an (Kd.R_elder' (by exact (Kd.R_farN HO241.out BK252.out)) (Kd.R_base ho0) hb) (an (Kd.R_elder' (by exact (Kd.R_farN HO245.out BK252.out)) (Kd.R_base ho0) hb) (an (Kd.R_elder' (by exact (Kd.R_farN HO251.out BK252.out)) (Kd.R_base ho0) hb) (an (Kd.R_lower (Kd.R_new' (Kd.R_new' (Kd.R_new' ho0 (Kd.R_lt (by exact (Kd.R_farN HO241.out BK252.out)))) (Kd.R_lt (by exact (Kd.R_farN HO245.out BK252.out)))) (Kd.R_lt (by exact (Kd.R_farN HO251.out BK252.out)))) (below_size (by exact bel0))) (an (blk_below (blk_kb BK236.out NB236_252.out) hb) (an (blk_below (blk_kb BK247.out NB247_252.out) hb) (an (blk_below (g := gb252) (o := .cells #[.int .i64 t248, .slice Ao27 t249.length co27] 54 (0, 0)) (by (with_reducible repeat (first | refine blk_drewN ?_ _ | refine blk_drew ?_ | refine blk_alloc ?_ _)); exact blk_fill2 BK252.out) hb) (an (below_step (by exact bel0) hb) (trivial)))))))); clear HO241 HO245 HO251 BK236 BK247 BK252 HB; obtain ⟨HO241, HO245, HO251, HO256, BK236, BK247, BK252, HB, -⟩ := n_; (try clear hb); (try clear hb2); (try clear hk); (try clear hi); (try clear ho0)) | ((with_reducible refine gate_dst (N := 9) rfl ?_); refine box_event ?hg (N := 9) ?hd (cs := #[.int .i64 0, .slice none 0 0]) (t := 54) ?hr ?_; (case hd => rfl); (case hg => rfl); (case hr => first | (go_simp; done) | (go_simp; rfl)); intro gb258 hg w29 hbox hb; have n_ := an (Kd.R_below (by exact Kd.R_nw HO241.out) hb) (an (Kd.R_below (by exact Kd.R_nw HO245.out) hb) (an (Kd.R_below (by exact Kd.R_nw HO251.out) hb) (an (Kd.R_below (by exact Kd.R_nw HO256.out) hb) (an (blk_below (blk_nw BK236.out) hb) (an (blk_below (blk_nw BK247.out) hb) (an (blk_below (blk_nw BK252.out) hb) (an (below_step (by exact bel0) hb) (an (hbox) (an ((by rw [hg]; exact (below_size (by exact bel0)) : w.heap.size ≤ gb258)) (an ((by rw [hg]; exact (below_size (by exact bel0)) : w.heap.size ≤ gb258)) (an ((by rw [hg]; exact Nat.ne_of_lt (blk_lt (blk_nw BK236.out)) : gb236 ≠ gb258)) (an ((by rw [hg]; exact Nat.ne_of_gt (blk_lt (blk_nw BK236.out)) : gb258 ≠ gb236)) (an ((by rw [hg]; exact Nat.ne_of_lt (blk_lt (blk_nw BK247.out)) : gb247 ≠ gb258)) (an ((by rw [hg]; exact Nat.ne_of_gt (blk_lt (blk_nw BK247.out)) : gb258 ≠ gb247)) (an ((by rw [hg]; exact Nat.ne_of_lt (blk_lt (blk_nw BK252.out)) : gb252 ≠ gb258)) (an ((by rw [hg]; exact Nat.ne_of_gt (blk_lt (blk_nw BK252.out)) : gb258 ≠ gb252)) (trivial))))))))))))))))); clear HO241 HO245 HO251 HO256 BK236 BK247 BK252 HB; obtain ⟨HO241, HO245, HO251, HO256, BK236, BK247, BK252, HB, BK258, GW258, GE258, NB236_258, NB258_236, NB247_258, NB258_247, NB252_258, NB258_252, -⟩ := n_; clear hb hbox hg; have hnb30 := NB258_236.out; have hnc30 := NB236_258.out; have hnb31 := NB258_247.out; have hnc31 := NB247_258.out; have hnb32 := NB258_252.out; have hnc32 := NB252_258.out; obtain ⟨hcz33_0, hcz33_1⟩ := blkz2 BK258.out; have hfz33_0 := blkf BK258.out; obtain ⟨Ao34, co34, eo34⟩ := Kd.R_slice HO256.out; subst eo34))
  (try simp only [Act.put, List.setIfInBounds_toArray, List.set_cons_zero, List.set_cons_succ])
  go_cut [44] (fun v44 wc => ∃ (kq : Nat) (x44_11 : Bool), v44 = .bool x44_11 ∧ Aside0 (laws_FnExactWheelStop.j0 kq a1 t246 t257 x44_11 a0_0 l0_1 t242 t243 t248 t249 t253 t254 = some r) ∧ Aside0 (kq ≤ k) ∧ Aside0 (Kd.R k133 133 wc w.heap.size (fun k_ => some k_ ≠ ((.slice Ao27 t249.length co27) : Value).ownBlock ∧ some k_ ≠ ((.slice Ao34 t254.length co34) : Value).ownBlock) (.slice Ao20 t243.length co20) t243) ∧ Aside0 (Kd.R k133 133 wc w.heap.size (fun k_ => some k_ ≠ ((.slice Ao20 t243.length co20) : Value).ownBlock ∧ some k_ ≠ ((.slice Ao34 t254.length co34) : Value).ownBlock) (.slice Ao27 t249.length co27) t249) ∧ Aside0 (Kd.R k133 133 wc w.heap.size (fun k_ => some k_ ≠ ((.slice Ao20 t243.length co20) : Value).ownBlock ∧ some k_ ≠ ((.slice Ao27 t249.length co27) : Value).ownBlock) (.slice Ao34 t254.length co34) t254) ∧ Aside0 (wc.heap[gb236]? = some (.cells #[.int .i64 a0_0, (.slice A0_1 l0_1.length c0_1)] 50 (0, 0))) ∧ Aside0 (wc.heap[gb247]? = some (.cells #[.int .i64 t242, (.slice Ao20 t243.length co20)] 54 (0, 0))) ∧ Aside0 (wc.heap[gb252]? = some (.cells #[.int .i64 t248, (.slice Ao27 t249.length co27)] 54 (0, 0))) ∧ Aside0 (wc.heap[gb258]? = some (.cells #[.int .i64 t253, (.slice Ao34 t254.length co34)] 54 (0, 0))) ∧ Aside0 (Below w.heap.size w wc))
  case first =>
   have H := HC12.out; clear HC12; replace H := Option.bind_eq_some_iff.mp H; obtain ⟨t259, A350, H⟩ := H; have A35 := Aside0.mk A350; clear A350; have hnb36 := NB258_236.out; have hnc36 := NB236_258.out; have hnb37 := NB258_247.out; have hnc37 := NB247_258.out; have hnb38 := NB258_252.out; have hnc38 := NB252_258.out; obtain ⟨hcz39_0, hcz39_1⟩ := blkz2 BK258.out; have hfz39_0 := blkf BK258.out; have hnb40 := NB247_236.out; have hnc40 := NB236_247.out; have hnb41 := NB247_252.out; have hnc41 := NB252_247.out; obtain ⟨hcz42_0, hcz42_1⟩ := blkz2 BK247.out; have hfz42_0 := blkf BK247.out
   replace H := Aside0.mk H
   go_wp2_with (first | ((with_reducible refine gate_callee (f := 34) rfl ?_); refine goesL_ (some 38) rfl rfl Try.func34 (by kernel_rfl) rfl #[.agg #[.int .i64 t253, .slice Ao34 t254.length co34], .agg #[.int .i64 t242, .slice Ao20 t243.length co20]] rfl (by (try simp only [List.map_toArray, List.map_cons, List.map_nil]); first | done | rfl | (simp only [List.length_drop, List.length_take]; rfl)) ?_; (with_reducible refine (laws_eqWheel.calls k t253 _ _ t254 t242 _ _ t243 t259 _ ?side1 ?side2 ?side3 ?side4 A35.out).mono ?_); (case side1 => refine (Kd.R_reads' (e := 133) (base := w.heap.size) (ok := fun k_ => (((True ∧ some k_ ≠ (.slice Ao15 t239.length co15 : Value).ownBlock) ∧ some k_ ≠ (.slice Ao20 t243.length co20 : Value).ownBlock) ∧ some k_ ≠ (.slice Ao27 t249.length co27 : Value).ownBlock)) (n := t254.length) (c := co34) ?_).2.2; exact (by exact (Kd.R_farN HO256.out BK258.out))); (case side2 => exact (Kd.R_reads' HO256.out).2.1); (case side3 => refine (Kd.R_reads' (e := 133) (base := w.heap.size) (ok := fun k_ => (((True ∧ some k_ ≠ (.slice Ao15 t239.length co15 : Value).ownBlock) ∧ some k_ ≠ (.slice Ao27 t249.length co27 : Value).ownBlock) ∧ some k_ ≠ (.slice Ao34 t254.length co34 : Value).ownBlock)) (n := t243.length) (c := co20) ?_).2.2; exact (by exact (Kd.R_farN HO245.out BK258.out))); (case side4 => exact (Kd.R_reads' HO245.out).2.1); rintro e w43 ⟨rfl, hb⟩; refine ⟨_, rfl, ?_⟩; have n_ := an (Kd.R_below (by exact (Kd.R_farN HO241.out BK258.out)) hb) (an (Kd.R_below (by exact (Kd.R_farN HO245.out BK258.out)) hb) (an (Kd.R_below (by exact (Kd.R_farN HO251.out BK258.out)) hb) (an (Kd.R_below (by exact (Kd.R_farN HO256.out BK258.out)) hb) (an (blk_below (blk_kb BK236.out NB236_258.out) hb) (an (blk_below (blk_kb BK247.out NB247_258.out) hb) (an (blk_below (blk_kb BK252.out NB252_258.out) hb) (an (blk_below (g := gb258) (o := .cells #[.int .i64 t253, .slice Ao34 t254.length co34] 54 (0, 0)) (by (with_reducible repeat (first | refine blk_drewN ?_ _ | refine blk_drew ?_ | refine blk_alloc ?_ _)); exact blk_fill2 BK258.out) hb) (an (below_step (by exact bel0) hb) (trivial))))))))); clear HO241 HO245 HO251 HO256 BK236 BK247 BK252 BK258 HB; obtain ⟨HO241, HO245, HO251, HO256, BK236, BK247, BK252, BK258, HB, -⟩ := n_; (try clear hb); (try clear hb2); (try clear hk); (try clear hi); refine Stop.out ?_))
   refine Stop.mk ?_
   replace H := H.out
   by_cases c44 : t259 = true
   ·subst c44; rw [if_pos rfl] at H
    have H' := Aside0.mk H
    clear H
    go_wp2
    go_meet
    case rel => exact ⟨_, ((t257 != t246)), (by first | rfl | (simp; done) | (simp [*]; done)), H', ⟨by first | omega | exact Nat.le_refl _⟩, ⟨by exact Kd.R_nw (Kd.R_mono HO245.out (fun _ hk => ⟨hk.1.2, hk.2⟩))⟩, ⟨by exact Kd.R_nw (Kd.R_mono HO251.out (fun _ hk => ⟨hk.1.2, hk.2⟩))⟩, ⟨by exact Kd.R_nw (Kd.R_mono HO256.out (fun _ hk => ⟨hk.1.2, hk.2⟩))⟩, ⟨by exact blk_nw BK236.out⟩, ⟨by exact blk_nw BK247.out⟩, ⟨by exact blk_nw BK252.out⟩, ⟨by exact blk_nw BK258.out⟩, ⟨by exact bel0⟩⟩
   ·replace c44 := Bool.eq_false_iff.mpr c44
    subst c44
    rw [if_neg (show ¬ (false = true) by decide)] at H
    have H' := Aside0.mk H
    clear H
    go_wp2
    go_meet
    case rel => exact ⟨_, (true), (by first | rfl | (simp; done) | (simp [*]; done)), H', ⟨by first | omega | exact Nat.le_refl _⟩, ⟨by exact Kd.R_nw (Kd.R_mono HO245.out (fun _ hk => ⟨hk.1.2, hk.2⟩))⟩, ⟨by exact Kd.R_nw (Kd.R_mono HO251.out (fun _ hk => ⟨hk.1.2, hk.2⟩))⟩, ⟨by exact Kd.R_nw (Kd.R_mono HO256.out (fun _ hk => ⟨hk.1.2, hk.2⟩))⟩, ⟨by exact blk_nw BK236.out⟩, ⟨by exact blk_nw BK247.out⟩, ⟨by exact blk_nw BK252.out⟩, ⟨by exact blk_nw BK258.out⟩, ⟨by exact bel0⟩⟩
  case rest =>
   clear HC12; try clear c1; try clear c2; try clear p2; try clear c3; try clear c4; try clear c5; try clear c7; try clear c7b0; try clear c18; try clear c24; try clear c25; try clear c30; try clear c31; try clear c32; try clear c33; try clear c34; try clear c36; try clear c37; try clear c38; try clear c40; try clear c41; try clear c44; try clear hcz13_0; try clear hcz13_1; try clear hcz19_0; try clear hcz19_1; try clear hcz21_0; try clear hcz21_1; try clear hcz26_0; try clear hcz26_1; try clear hcz33_0; try clear hcz33_1; try clear hcz39_0; try clear hcz39_1; try clear hcz42_0; try clear hcz42_1; try clear hcz5_0; try clear hcz5_1; try clear hfz13_0; try clear hfz13_1; try clear hfz19_0; try clear hfz19_1; try clear hfz21_0; try clear hfz21_1; try clear hfz26_0; try clear hfz26_1; try clear hfz33_0; try clear hfz33_1; try clear hfz39_0; try clear hfz39_1; try clear hfz42_0; try clear hfz42_1; try clear hfz5_0; try clear hfz5_1
   obtain ⟨kq, x44_11, rfl, HA, HJ11, HO_248001, HO_253001, HO_259001, BK236, BK247, BK252, BK258, HB⟩ := hcut
   cases kq with
   | zero => exact absurd HA.out (by simp [laws_FnExactWheelStop.j0])
   | succ kj11 =>
    have H := HA.out; clear HA
    simp only [laws_FnExactWheelStop.j0] at H
    by_cases c45 : x44_11 = true
    ·subst c45; rw [if_pos rfl] at H
     obtain rfl := Option.some.inj H
     go_wp2
     go_ret
     exact ⟨by first | rfl | (simp [errW_none, errW_some] <;> rfl) | (simp [*, errW_none, errW_some] <;> rfl), by exact bel0⟩
    ·replace c45 := Bool.eq_false_iff.mpr c45
     subst c45
     rw [if_neg (show ¬ (false = true) by decide)] at H
     replace H := Option.bind_eq_some_iff.mp H
     obtain ⟨⟨t260, t261⟩, A460, H⟩ := H
     replace H : ((laws_eqWheel.f kj11 t248 t249 t260 t261).bind fun t264 => (if t264 = true then ((laws_markWheel.f kj11 t248 t249 1).bind fun bt265 => (if bt265.1 < 0 then (laws_FnExactWheelStop.j1 kj11 a1 t246 true a0_0 l0_1 t242 t243 t253 t254) else ((laws_eqWheel.f kj11 t253 t254 t242 t243).bind fun t267 => (if t267 = true then (laws_FnExactWheelStop.j1 kj11 a1 t246 (t257 != t246) a0_0 l0_1 t242 t243 t253 t254) else (laws_FnExactWheelStop.j1 kj11 a1 t246 true a0_0 l0_1 t242 t243 t253 t254))))) else (some false))) = some r := H
     have A46 := Aside0.mk A460; clear A460; replace H := Option.bind_eq_some_iff.mp H; obtain ⟨t264, A470, H⟩ := H; have A47 := Aside0.mk A470; clear A470
     replace H := Aside0.mk H
     try go_wp2
     have n_ := an (Kd.R_drew HO_248001.out) (an (Kd.R_drew HO_253001.out) (an (Kd.R_drew HO_259001.out) (an (blk_drew BK236.out) (an (blk_drew BK247.out) (an (blk_drew BK252.out) (an (blk_drew BK258.out) (an (below_drew1 HB.out) (trivial))))))))
     clear HO_248001 HO_253001 HO_259001 BK236 BK247 BK252 BK258 HB
     obtain ⟨HO_248001, HO_253001, HO_259001, BK236, BK247, BK252, BK258, HB, -⟩ := n_
     refine start_ (n := 5) (S := fun w' => w'.cell? ⟨gb252, 0, none⟩ = some (.int .i64 t248) ∧ w'.cell? ⟨gb252, 1, none⟩ = some (.slice Ao27 t249.length co27) ∧ w'.cell? ⟨gb236, 0, none⟩ = some (.int .i64 a0_0) ∧ w'.cell? ⟨gb236, 1, none⟩ = some (.slice A0_1 l0_1.length c0_1)) (ds := []) #[false, false, false, false, false] (by kernel_rfl) rfl rfl ⟨(blk_cell BK252.out 0).trans rfl, (blk_cell BK252.out 1).trans rfl, (blk_cell BK236.out 0).trans rfl, (blk_cell BK236.out 1).trans rfl⟩ (fun hHeld => ?_)
     generalize wc.drew = w48 at HO_248001 HO_253001 HO_259001 BK236 BK247 BK252 BK258 HB hHeld ⊢
     refine take_ (i := 0) (N := some 45) (v := ?_) (a' := ?_) #[true, false, false, false, false] rfl rfl (by kernel_rfl) (fun _ _ _ h => h) (Or.inl ⟨by rfl, ?_⟩) hHeld ?_ ?_
     rotate_left
     ·rintro w' ⟨s0, s1, s2, s3⟩
      go_simp
      with_reducible rfl
     rotate_left
     ·simp only [Act.put, List.setIfInBounds_toArray, List.set_cons_zero, List.set_cons_succ, i64_w, i32_w]
      rfl
     refine take_ (i := 1) (N := some 46) (v := ?_) (a' := ?_) #[true, true, false, false, false] rfl rfl (by kernel_rfl) (fun _ _ _ h => h) (Or.inl ⟨by rfl, ?_⟩) hHeld ?_ ?_
     rotate_left
     ·rintro w' ⟨s0, s1, s2, s3⟩
      go_simp
      with_reducible rfl
     rotate_left
     ·simp only [Act.put, List.setIfInBounds_toArray, List.set_cons_zero, List.set_cons_succ, i64_w, i32_w]
      rfl
     refine one_ (i := 2) (N := some 47) #[true, true, true, false, false] rfl rfl (by kernel_rfl) (by decide) (fun K hK => ?_)
     refine goes_ Try.func32 (by kernel_rfl) rfl #[.agg #[.int .i64 a0_0, .slice A0_1 l0_1.length c0_1]] (by rfl) rfl rfl (by (try simp only [List.map_toArray, List.map_cons, List.map_nil]); first | done | rfl | (simp only [List.length_drop, List.length_take]; rfl)) ?_
     with_reducible refine (laws_toWheel.calls kj11 a0_0 _ _ l0_1 t260 t261 _ ?side1 ?side2 A46.out).mono ?_
     (case side1 => repeat (first | exact (Kd.C_below HR0_1.out HB.out) | (with_reducible refine Kd.C_alloc ?_ _) | (with_reducible refine Kd.C_drewN ?_ _) | (with_reducible refine Kd.C_drew ?_)))
     (case side2 => exact HC0_1.out)
     rintro e w49 ⟨v262, rfl, ho0, hb⟩
     refine ⟨_, rfl, ?_⟩
     have n_ := an (Kd.R_elder' (by exact Kd.R_nw HO_248001.out) (Kd.R_base ho0) hb) (an (Kd.R_elder' (by exact Kd.R_nw HO_253001.out) (Kd.R_base ho0) hb) (an (Kd.R_elder' (by exact Kd.R_nw HO_259001.out) (Kd.R_base ho0) hb) (an (Kd.R_lower (Kd.R_new' (Kd.R_new' (Kd.R_new' ho0 (Kd.R_lt (by exact Kd.R_nw HO_248001.out))) (Kd.R_lt (by exact Kd.R_nw HO_253001.out))) (Kd.R_lt (by exact Kd.R_nw HO_259001.out))) (below_size (by exact bel0))) (an (blk_below (blk_nw BK236.out) hb) (an (blk_below (blk_nw BK247.out) hb) (an (blk_below (blk_nw BK252.out) hb) (an (blk_below (blk_nw BK258.out) hb) (an (below_step (by exact bel0) hb) (trivial)))))))))
     clear HO_248001 HO_253001 HO_259001 BK236 BK247 BK252 BK258 HB
     obtain ⟨HO_248001, HO_253001, HO_259001, HO263, BK236, BK247, BK252, BK258, HB, -⟩ := n_
     (try clear hb); (try clear hb2); (try clear hk); (try clear hi); (try clear ho0)
     obtain ⟨Ao50, co50, eo50⟩ := Kd.R_slice HO263.out
     (first | subst eo50 | (injection eo50 with f1_ f2_ f3_; have f4_ := f1_.symm; have f5_ := f3_.symm; clear f1_ f2_ f3_; subst f4_; subst f5_))
     refine hK.out _ _ ⟨(blk_cell BK252.out 0).trans rfl, (blk_cell BK252.out 1).trans rfl, (blk_cell BK236.out 0).trans rfl, (blk_cell BK236.out 1).trans rfl⟩ (fun hHeld => ?_)
     clear hK K
     refine norm_ (a' := ?_) ?_ ?_
     rotate_left
     ·show Act.put _ (some 47) _ = _
      simp only [Act.put, List.setIfInBounds_toArray, List.set_cons_zero, List.set_cons_succ, i64_w, i32_w]
      rfl
     refine one_ (i := 3) (N := some 48) #[true, true, true, true, false] rfl rfl (by kernel_rfl) (by decide) (fun K hK => ?_)
     refine goes_ Try.func34 (by kernel_rfl) rfl #[.agg #[.int .i64 t248, .slice Ao27 t249.length co27], .agg #[.int .i64 t260, .slice Ao50 t261.length co50]] (by rfl) rfl rfl (by (try simp only [List.map_toArray, List.map_cons, List.map_nil]); first | done | rfl | (simp only [List.length_drop, List.length_take]; rfl)) ?_
     with_reducible refine (laws_eqWheel.calls kj11 t248 _ _ t249 t260 _ _ t261 t264 _ ?side1 ?side2 ?side3 ?side4 A47.out).mono ?_
     (case side1 => repeat (first | exact (Kd.R_reads' HO_253001.out).2.2 | (with_reducible refine Kd.C_alloc ?_ _) | (with_reducible refine Kd.C_drewN ?_ _) | (with_reducible refine Kd.C_drew ?_)))
     (case side2 => exact (Kd.R_reads' HO_253001.out).2.1)
     (case side3 => repeat (first | exact (Kd.R_reads' HO263.out).2.2 | (with_reducible refine Kd.C_alloc ?_ _) | (with_reducible refine Kd.C_drewN ?_ _) | (with_reducible refine Kd.C_drew ?_)))
     (case side4 => exact (Kd.R_reads' HO263.out).2.1)
     rintro e w51 ⟨rfl, hb⟩
     refine ⟨_, rfl, ?_⟩
     have n_ := an (Kd.R_below (by exact Kd.R_nw HO_248001.out) hb) (an (Kd.R_below (by exact Kd.R_nw HO_253001.out) hb) (an (Kd.R_below (by exact Kd.R_nw HO_259001.out) hb) (an (Kd.R_below (by exact Kd.R_nw HO263.out) hb) (an (blk_below (blk_nw BK236.out) hb) (an (blk_below (blk_nw BK247.out) hb) (an (blk_below (blk_nw BK252.out) hb) (an (blk_below (blk_nw BK258.out) hb) (an (below_step (by exact bel0) hb) (trivial)))))))))
     clear HO_248001 HO_253001 HO_259001 HO263 BK236 BK247 BK252 BK258 HB
     obtain ⟨HO_248001, HO_253001, HO_259001, HO263, BK236, BK247, BK252, BK258, HB, -⟩ := n_
     (try clear hb); (try clear hb2); (try clear hk); (try clear hi)
     refine hK.out _ _ ⟨(blk_cell BK252.out 0).trans rfl, (blk_cell BK252.out 1).trans rfl, (blk_cell BK236.out 0).trans rfl, (blk_cell BK236.out 1).trans rfl⟩ (fun hHeld => ?_)
     clear hK K
     refine norm_ (a' := ?_) ?_ ?_
     rotate_left
     ·show Act.put _ (some 48) _ = _
      simp only [Act.put, List.setIfInBounds_toArray, List.set_cons_zero, List.set_cons_succ, i64_w, i32_w]
      rfl
     refine pure_ (i := 4) (N := some 49) (v := ?_) (a' := ?_) #[true, true, true, true, true] rfl rfl (by kernel_rfl) (fun _ _ _ h => h) (Or.inl ⟨by rfl, ?_⟩) ?_ ?_
     rotate_left
     ·intro w'
      go_simp
      with_reducible rfl
     rotate_left
     ·simp only [Act.put, List.setIfInBounds_toArray, List.set_cons_zero, List.set_cons_succ, i64_w, i32_w]
      rfl
     refine done_ (by kernel_rfl) ?_
     replace H := H.out
     by_cases c52 : t264 = true
     ·subst c52; rw [if_pos rfl] at H; replace H := Option.bind_eq_some_iff.mp H
      obtain ⟨⟨t265, t266⟩, A530, H⟩ := H
      replace H : (if t265 < 0 then (laws_FnExactWheelStop.j1 kj11 a1 t246 true a0_0 l0_1 t242 t243 t253 t254) else ((laws_eqWheel.f kj11 t253 t254 t242 t243).bind fun t267 => (if t267 = true then (laws_FnExactWheelStop.j1 kj11 a1 t246 (t257 != t246) a0_0 l0_1 t242 t243 t253 t254) else (laws_FnExactWheelStop.j1 kj11 a1 t246 true a0_0 l0_1 t242 t243 t253 t254)))) = some r := H
      have A53 := Aside0.mk A530; clear A530; have HC54 := Aside0.mk H; clear H; have hnb55 := NB252_236.out; have hnc55 := NB236_252.out; have hnb56 := NB252_247.out; have hnc56 := NB247_252.out; have hnb57 := NB252_258.out; have hnc57 := NB258_252.out; obtain ⟨hcz58_0, hcz58_1⟩ := blkz2 BK252.out; have hfz58_0 := blkf BK252.out
      go_upto_region 14 with (first | ((with_reducible refine gate_callee (f := 35) rfl ?_); refine goesL_ (some 52) rfl rfl Try.func35 (by kernel_rfl) rfl #[.agg #[.int .i64 t248, .slice Ao27 t249.length co27], .int .i64 1] rfl (by (try simp only [List.map_toArray, List.map_cons, List.map_nil]); first | done | rfl | (simp only [List.length_drop, List.length_take]; rfl)) ?_; (with_reducible refine (laws_markWheel.calls kj11 t248 (fun k_ => some k_ = (.slice Ao27 t249.length co27 : Value).ownBlock) (.slice Ao27 t249.length co27) t249 1 t265 t266 w _ ?side1 ?side2 A53.out).mono ?_); (case side1 => exact bel0); (case side2 => exact Kd.R_tight rfl HO_253001.out); rintro e w59 ⟨rfl, hy0, hb, hkp⟩; refine ⟨_, rfl, ?_⟩; have n_ := an (Kd.R_mono (ok' := fun k_ => some k_ ≠ (.slice Ao27 t249.length co27 : Value).ownBlock ∧ some k_ ≠ (.slice Ao34 t254.length co34 : Value).ownBlock ∧ some k_ ≠ (.slice Ao50 t261.length co50 : Value).ownBlock) (Kd.R_keptB (HO_248001.out) hkp (fun k_ hk_ hs_ => (hk_.1.1) hs_)) (fun k_ hk_ => ⟨hk_.1.1.1, hk_.1.1.2, hk_.1.2⟩)) (an (Kd.R_reok rfl hy0 (fun k_ e_ => HO_253001.out.1 k_ e_)) (an (Kd.R_mono (ok' := fun k_ => some k_ ≠ (.slice Ao20 t243.length co20 : Value).ownBlock ∧ some k_ ≠ (.slice Ao27 t249.length co27 : Value).ownBlock ∧ some k_ ≠ (.slice Ao50 t261.length co50 : Value).ownBlock) (Kd.R_keptB (HO_259001.out) hkp (fun k_ hk_ hs_ => (hk_.1.2) hs_)) (fun k_ hk_ => ⟨hk_.1.1.1, hk_.1.1.2, hk_.1.2⟩)) (an (blk_kept (by exact blk_nw BK236.out) hkp (fun hs_ => (fun e_ => (Kd.R_ne HO_253001.out BK236.out (by decide)) e_) hs_)) (an (blk_kept (by exact blk_nw BK247.out) hkp (fun hs_ => (fun e_ => (Kd.R_ne HO_253001.out BK247.out (by decide)) e_) hs_)) (an (blk_kept (by exact blk_nw BK252.out) hkp (fun hs_ => (fun e_ => (Kd.R_ne HO_253001.out BK252.out (by decide)) e_) hs_)) (an (blk_kept (by exact blk_nw BK258.out) hkp (fun hs_ => (fun e_ => (Kd.R_ne HO_253001.out BK258.out (by decide)) e_) hs_)) (an (Kd.R_mono (ok' := fun k_ => some k_ ≠ (.slice Ao20 t243.length co20 : Value).ownBlock ∧ some k_ ≠ (.slice Ao27 t249.length co27 : Value).ownBlock ∧ some k_ ≠ (.slice Ao34 t254.length co34 : Value).ownBlock) (Kd.R_keptB (HO263.out) hkp (fun k_ hk_ hs_ => (hk_.1.2) hs_)) (fun k_ hk_ => ⟨hk_.1.1.1.2, hk_.1.1.2, hk_.1.2⟩)) (an (hb) (trivial))))))))); clear HO_248001 HO_253001 HO_259001 BK236 BK247 BK252 BK258 HO263 HB; obtain ⟨HO_248001, HO_253001, HO_259001, BK236, BK247, BK252, BK258, HO263, HB, -⟩ := n_; (try clear hb); (try clear hkp); (try clear hy0)))
      (try simp only [Act.put, List.setIfInBounds_toArray, List.set_cons_zero, List.set_cons_succ])
      go_cut [65] (fun v65 wc => ∃ (kq : Nat) (x65_53 : Bool), v65 = .bool x65_53 ∧ Aside0 (laws_FnExactWheelStop.j1 kq a1 t246 x65_53 a0_0 l0_1 t242 t243 t253 t254 = some r) ∧ Aside0 (kq ≤ kj11) ∧ Aside0 (Kd.R k133 133 wc w.heap.size (fun k_ => some k_ ≠ ((.slice Ao27 t249.length co27) : Value).ownBlock ∧ some k_ ≠ ((.slice Ao34 t254.length co34) : Value).ownBlock) (.slice Ao20 t243.length co20) t243) ∧ Aside0 (Kd.R k133 133 wc w.heap.size (fun k_ => some k_ ≠ ((.slice Ao20 t243.length co20) : Value).ownBlock ∧ some k_ ≠ ((.slice Ao34 t254.length co34) : Value).ownBlock) (.slice Ao27 t249.length co27) t266) ∧ Aside0 (Kd.R k133 133 wc w.heap.size (fun k_ => some k_ ≠ ((.slice Ao20 t243.length co20) : Value).ownBlock ∧ some k_ ≠ ((.slice Ao27 t249.length co27) : Value).ownBlock) (.slice Ao34 t254.length co34) t254) ∧ Aside0 (wc.heap[gb236]? = some (.cells #[.int .i64 a0_0, (.slice A0_1 l0_1.length c0_1)] 50 (0, 0))) ∧ Aside0 (wc.heap[gb247]? = some (.cells #[.int .i64 t242, (.slice Ao20 t243.length co20)] 54 (0, 0))) ∧ Aside0 (wc.heap[gb252]? = some (.cells #[.int .i64 t248, (.slice Ao27 t249.length co27)] 54 (0, 0))) ∧ Aside0 (wc.heap[gb258]? = some (.cells #[.int .i64 t253, (.slice Ao34 t254.length co34)] 54 (0, 0))) ∧ Aside0 (Below w.heap.size w wc))
      case first =>
       have H := HC54.out; clear HC54
       by_cases c60 : t265 < 0
       ·rw [if_pos c60] at H; have c60b0 : decide (t265 < 0) = true := decide_eq_true c60; clear c60; (try simp only [c60b0])
        (first | rw [c60b0] | (simp only [i64_w, i32_w]; rw [c60b0]) | skip)
        have H' := Aside0.mk H
        clear H
        go_wp2
        go_meet
        case rel => exact ⟨_, (true), (by first | rfl | (simp; done) | (simp [*]; done)), H', ⟨by have := HJ11.out; first | omega | exact Nat.le_refl _⟩, ⟨by exact Kd.R_nw (Kd.R_mono HO_248001.out (fun _ hk => ⟨hk.1, hk.2.1⟩))⟩, ⟨by exact Kd.R_nw (Kd.R_mono HO_253001.out (fun _ hk => ⟨hk.1.1, hk.1.2⟩))⟩, ⟨by exact Kd.R_nw (Kd.R_mono HO_259001.out (fun _ hk => ⟨hk.1, hk.2.1⟩))⟩, ⟨by exact blk_nw BK236.out⟩, ⟨by exact blk_nw BK247.out⟩, ⟨by exact blk_nw BK252.out⟩, ⟨by exact blk_nw BK258.out⟩, ⟨by exact bel0⟩⟩
       ·rw [if_neg c60] at H; have c60b0 : decide (t265 < 0) = false := decide_eq_false c60; clear c60; (try simp only [c60b0])
        (first | rw [c60b0] | (simp only [i64_w, i32_w]; rw [c60b0]) | skip)
        replace H := Option.bind_eq_some_iff.mp H; obtain ⟨t267, A610, H⟩ := H; have A61 := Aside0.mk A610; clear A610; have hnb62 := NB258_236.out; have hnc62 := NB236_258.out; have hnb63 := NB258_247.out; have hnc63 := NB247_258.out; have hnb64 := NB258_252.out; have hnc64 := NB252_258.out; obtain ⟨hcz65_0, hcz65_1⟩ := blkz2 BK258.out; have hfz65_0 := blkf BK258.out; have hnb66 := NB247_236.out; have hnc66 := NB236_247.out; have hnb67 := NB247_252.out; have hnc67 := NB252_247.out; obtain ⟨hcz68_0, hcz68_1⟩ := blkz2 BK247.out; have hfz68_0 := blkf BK247.out
        replace H := Aside0.mk H
        go_wp2_with (first | (go_at_call 34; (with_reducible refine (laws_eqWheel.calls kj11 t253 _ _ t254 t242 _ _ t243 t267 _ ?side1 ?side2 ?side3 ?side4 A61.out).mono ?_); (case side1 => repeat (first | exact (Kd.R_reads' HO_259001.out).2.2 | (with_reducible refine Kd.C_alloc ?_ _) | (with_reducible refine Kd.C_drewN ?_ _) | (with_reducible refine Kd.C_drew ?_))); (case side2 => exact (Kd.R_reads' HO_259001.out).2.1); (case side3 => repeat (first | exact (Kd.R_reads' HO_248001.out).2.2 | (with_reducible refine Kd.C_alloc ?_ _) | (with_reducible refine Kd.C_drewN ?_ _) | (with_reducible refine Kd.C_drew ?_))); (case side4 => exact (Kd.R_reads' HO_248001.out).2.1); rintro e w69 ⟨rfl, hb⟩; have n_ := an (Kd.R_below (by exact Kd.R_nw HO_248001.out) hb) (an (Kd.R_below (by exact Kd.R_nw HO_253001.out) hb) (an (Kd.R_below (by exact Kd.R_nw HO_259001.out) hb) (an (Kd.R_below (by exact Kd.R_nw HO263.out) hb) (an (blk_below (blk_nw BK236.out) hb) (an (blk_below (blk_nw BK247.out) hb) (an (blk_below (blk_nw BK252.out) hb) (an (blk_below (blk_nw BK258.out) hb) (an (below_step (by exact bel0) hb) (trivial))))))))); clear HO_248001 HO_253001 HO_259001 HO263 BK236 BK247 BK252 BK258 HB; obtain ⟨HO_248001, HO_253001, HO_259001, HO263, BK236, BK247, BK252, BK258, HB, -⟩ := n_; (try clear hb); (try clear hb2); (try clear hk); (try clear hi); refine Stop.out ?_))
        refine Stop.mk ?_
        replace H := H.out
        by_cases c70 : t267 = true
        ·subst c70; rw [if_pos rfl] at H
         have H' := Aside0.mk H
         clear H
         go_wp2
         go_meet
         case rel => exact ⟨_, ((t257 != t246)), (by first | rfl | (simp; done) | (simp [*]; done)), H', ⟨by have := HJ11.out; first | omega | exact Nat.le_refl _⟩, ⟨by exact Kd.R_nw (Kd.R_mono HO_248001.out (fun _ hk => ⟨hk.1, hk.2.1⟩))⟩, ⟨by exact Kd.R_nw (Kd.R_mono HO_253001.out (fun _ hk => ⟨hk.1.1, hk.1.2⟩))⟩, ⟨by exact Kd.R_nw (Kd.R_mono HO_259001.out (fun _ hk => ⟨hk.1, hk.2.1⟩))⟩, ⟨by exact blk_nw BK236.out⟩, ⟨by exact blk_nw BK247.out⟩, ⟨by exact blk_nw BK252.out⟩, ⟨by exact blk_nw BK258.out⟩, ⟨by exact bel0⟩⟩
        ·replace c70 := Bool.eq_false_iff.mpr c70
         subst c70
         rw [if_neg (show ¬ (false = true) by decide)] at H
         have H' := Aside0.mk H
         clear H
         go_wp2
         go_meet
         case rel => exact ⟨_, (true), (by first | rfl | (simp; done) | (simp [*]; done)), H', ⟨by have := HJ11.out; first | omega | exact Nat.le_refl _⟩, ⟨by exact Kd.R_nw (Kd.R_mono HO_248001.out (fun _ hk => ⟨hk.1, hk.2.1⟩))⟩, ⟨by exact Kd.R_nw (Kd.R_mono HO_253001.out (fun _ hk => ⟨hk.1.1, hk.1.2⟩))⟩, ⟨by exact Kd.R_nw (Kd.R_mono HO_259001.out (fun _ hk => ⟨hk.1, hk.2.1⟩))⟩, ⟨by exact blk_nw BK236.out⟩, ⟨by exact blk_nw BK247.out⟩, ⟨by exact blk_nw BK252.out⟩, ⟨by exact blk_nw BK258.out⟩, ⟨by exact bel0⟩⟩
      case rest =>
       clear HC54; try clear c1; try clear c2; try clear p2; try clear c3; try clear c4; try clear c5; try clear c6; try clear c7; try clear c7b0; try clear c18; try clear c24; try clear c25; try clear c30; try clear c31; try clear c32; try clear c33; try clear c34; try clear c35; try clear c36; try clear c37; try clear c38; try clear c40; try clear c41; try clear c44; try clear c45; try clear c52; try clear c55; try clear c56; try clear c57; try clear c60; try clear c60b0; try clear c62; try clear c63; try clear c64; try clear c66; try clear c67; try clear c70; try clear hcz13_0; try clear hcz13_1; try clear hcz19_0; try clear hcz19_1; try clear hcz21_0; try clear hcz21_1; try clear hcz26_0; try clear hcz26_1; try clear hcz33_0; try clear hcz33_1; try clear hcz39_0; try clear hcz39_1; try clear hcz42_0; try clear hcz42_1; try clear hcz58_0; try clear hcz58_1; try clear hcz5_0; try clear hcz5_1; try clear hcz65_0; try clear hcz65_1; try clear hcz68_0; try clear hcz68_1; try clear hfz13_0; try clear hfz13_1; try clear hfz19_0; try clear hfz19_1; try clear hfz21_0; try clear hfz21_1; try clear hfz26_0; try clear hfz26_1; try clear hfz33_0; try clear hfz33_1; try clear hfz39_0; try clear hfz39_1; try clear hfz42_0; try clear hfz42_1; try clear hfz58_0; try clear hfz58_1; try clear hfz5_0; try clear hfz5_1; try clear hfz65_0; try clear hfz65_1; try clear hfz68_0; try clear hfz68_1; try clear p2
       obtain ⟨kq, x65_53, rfl, HA, HJ53, HO_248001, HO_253001, HO_259001, BK236, BK247, BK252, BK258, HB⟩ := hcut
       have hl253001_53 := (Kd.R_reads' HO_253001.out).1
       rw [hl253001_53] at HO_253001
       (try simp only [hl253001_53])
       (try simp only [hl253001_53] at BK236)
       (try simp only [hl253001_53] at BK247)
       (try simp only [hl253001_53] at BK252)
       (try simp only [hl253001_53] at BK258)
       (try simp only [hl253001_53] at HO_248001)
       (try simp only [hl253001_53] at HO_259001)
       cases kq with
       | zero => exact absurd HA.out (by simp [laws_FnExactWheelStop.j1])
       | succ kj53 =>
        have H := HA.out; clear HA
        simp only [laws_FnExactWheelStop.j1] at H
        by_cases c71 : x65_53 = true
        ·subst c71; rw [if_pos rfl] at H
         obtain rfl := Option.some.inj H
         go_wp2
         go_ret
         exact ⟨by first | rfl | (simp [errW_none, errW_some] <;> rfl) | (simp [*, errW_none, errW_some] <;> rfl), by exact bel0⟩
        ·replace c71 := Bool.eq_false_iff.mpr c71
         subst c71
         rw [if_neg (show ¬ (false = true) by decide)] at H
         replace H := Option.bind_eq_some_iff.mp H
         obtain ⟨⟨t268, t269⟩, A720, H⟩ := H
         replace H : ((laws_heldWheel.f kj53 t253 t269 1).bind fun t270 => (if t270 < 0 then (some false) else (if t270 = t268 then ((laws_toWheel.f kj53 a0_0 l0_1).bind fun bt271 => ((impl_WheelStop.f kj53 bt271.1 bt271.2 a1).bind fun bt275 => ((laws_eqWheel.f kj53 bt275.1 bt275.2.1 t242 t243).bind fun t281 => (if t281 = true then (laws_FnExactWheelStop.j2 kj53 t268 (bt275.2.2 != t246) t253 t269) else (laws_FnExactWheelStop.j2 kj53 t268 true t253 t269))))) else (some false)))) = some r := H
         have A72 := Aside0.mk A720; clear A720; replace H := Option.bind_eq_some_iff.mp H; obtain ⟨t270, A730, H⟩ := H; have A73 := Aside0.mk A730; clear A730; have hnb74 := NB258_236.out; have hnc74 := NB236_258.out; have hnb75 := NB258_247.out; have hnc75 := NB247_258.out; have hnb76 := NB258_252.out; have hnc76 := NB252_258.out; obtain ⟨hcz77_0, hcz77_1⟩ := blkz2 BK258.out; have hfz77_0 := blkf BK258.out
         replace H := Aside0.mk H
         go_wp2_with (first | ((with_reducible refine gate_callee (f := 35) rfl ?_); refine goesL_ (some 68) rfl rfl Try.func35 (by kernel_rfl) rfl #[.agg #[.int .i64 t253, .slice Ao34 t254.length co34], .int .i64 1] rfl (by (try simp only [List.map_toArray, List.map_cons, List.map_nil]); first | done | rfl | (simp only [List.length_drop, List.length_take]; rfl)) ?_; (with_reducible refine (laws_markWheel.calls kj53 t253 (fun k_ => some k_ = (.slice Ao34 t254.length co34 : Value).ownBlock) (.slice Ao34 t254.length co34) t254 1 t268 t269 w _ ?side1 ?side2 A72.out).mono ?_); (case side1 => exact bel0); (case side2 => exact Kd.R_tight rfl HO_259001.out); rintro e w78 ⟨rfl, hy0, hb, hkp⟩; refine ⟨_, rfl, ?_⟩; have n_ := an (Kd.R_mono (ok' := fun k_ => some k_ ≠ (.slice Ao27 t266.length co27 : Value).ownBlock ∧ some k_ ≠ (.slice Ao34 t254.length co34 : Value).ownBlock) (Kd.R_keptB (HO_248001.out) hkp (fun k_ hk_ hs_ => (hk_.2) hs_)) (fun k_ hk_ => ⟨hk_.1.1, hk_.1.2⟩)) (an (Kd.R_mono (ok' := fun k_ => some k_ ≠ (.slice Ao20 t243.length co20 : Value).ownBlock ∧ some k_ ≠ (.slice Ao34 t254.length co34 : Value).ownBlock) (Kd.R_keptB (HO_253001.out) hkp (fun k_ hk_ hs_ => (hk_.2) hs_)) (fun k_ hk_ => ⟨hk_.1.1, hk_.1.2⟩)) (an (Kd.R_reok rfl hy0 (fun k_ e_ => HO_259001.out.1 k_ e_)) (an (blk_kept (by exact blk_nw BK236.out) hkp (fun hs_ => (fun e_ => (Kd.R_ne HO_259001.out BK236.out (by decide)) e_) hs_)) (an (blk_kept (by exact blk_nw BK247.out) hkp (fun hs_ => (fun e_ => (Kd.R_ne HO_259001.out BK247.out (by decide)) e_) hs_)) (an (blk_kept (by exact blk_nw BK252.out) hkp (fun hs_ => (fun e_ => (Kd.R_ne HO_259001.out BK252.out (by decide)) e_) hs_)) (an (blk_kept (by exact blk_nw BK258.out) hkp (fun hs_ => (fun e_ => (Kd.R_ne HO_259001.out BK258.out (by decide)) e_) hs_)) (an (hb) (trivial)))))))); clear HO_248001 HO_253001 HO_259001 BK236 BK247 BK252 BK258 HB; obtain ⟨HO_248001, HO_253001, HO_259001, BK236, BK247, BK252, BK258, HB, -⟩ := n_; (try clear hb); (try clear hkp); (try clear hy0); obtain ⟨hcz79_0, hcz79_1⟩ := blkz2 BK258.out; have hfz79_0 := blkf BK258.out) | ((with_reducible refine gate_callee (f := 36) rfl ?_); refine goesL_ (some 71) rfl rfl Try.func36 (by kernel_rfl) rfl #[.agg #[.int .i64 t253, .slice Ao34 t269.length co34], .int .i64 1] rfl (by (try simp only [List.map_toArray, List.map_cons, List.map_nil]); first | done | (rw [show t269.length = t254.length from (Kd.R_reads' HO_259001.out).1.symm] <;> rfl) | rfl | (simp only [List.length_drop, List.length_take]; rfl)) ?_; (with_reducible refine (laws_heldWheel.calls kj53 t253 _ _ t269 1 t270 _ ?side1 ?side2 A73.out).mono ?_); (case side1 => repeat (first | exact (Kd.R_reads' HO_259001.out).2.2 | (with_reducible refine Kd.C_alloc ?_ _) | (with_reducible refine Kd.C_drewN ?_ _) | (with_reducible refine Kd.C_drew ?_))); (case side2 => rw [show t269.length = t254.length from (Kd.R_reads' HO_259001.out).1.symm]; exact (Kd.R_reads' HO_259001.out).2.1); rintro e w80 ⟨rfl, hb⟩; refine ⟨_, rfl, ?_⟩; have n_ := an (Kd.R_below (by exact Kd.R_nw HO_248001.out) hb) (an (Kd.R_below (by exact Kd.R_nw HO_253001.out) hb) (an (Kd.R_below (by exact Kd.R_nw HO_259001.out) hb) (an (blk_below (blk_nw BK236.out) hb) (an (blk_below (blk_nw BK247.out) hb) (an (blk_below (blk_nw BK252.out) hb) (an (blk_below (blk_nw BK258.out) hb) (an (below_step (by exact bel0) hb) (trivial)))))))); clear HO_248001 HO_253001 HO_259001 BK236 BK247 BK252 BK258 HB; obtain ⟨HO_248001, HO_253001, HO_259001, BK236, BK247, BK252, BK258, HB, -⟩ := n_; (try clear hb); (try clear hb2); (try clear hk); (try clear hi); refine Stop.out ?_))
         refine Stop.mk ?_
         replace H := H.out
         by_cases c81 : t270 < 0
         ·rw [if_pos c81] at H; have c81b0 : decide (t270 < 0) = true := decide_eq_true c81; clear c81; (try simp only [c81b0])
          obtain rfl := Option.some.inj H
          go_wp2
          go_ret
          exact ⟨by first | rfl | (simp [errW_none, errW_some] <;> rfl) | (simp [*, errW_none, errW_some] <;> rfl), by exact bel0⟩
         ·rw [if_neg c81] at H; have c81b0 : decide (t270 < 0) = false := decide_eq_false c81; clear c81; (try simp only [c81b0])
          by_cases c82 : t270 = t268
          ·rw [if_pos c82] at H; have c82b0 : (t270 == t268) = true := beq_iff_eq.mpr c82; have c82b1 : (t270 != t268) = false := bne_eq_false_iff_eq.mpr c82; clear c82; replace H := Option.bind_eq_some_iff.mp H
           obtain ⟨⟨t271, t272⟩, A830, H⟩ := H
           replace H : ((impl_WheelStop.f kj53 t271 t272 a1).bind fun bt275 => ((laws_eqWheel.f kj53 bt275.1 bt275.2.1 t242 t243).bind fun t281 => (if t281 = true then (laws_FnExactWheelStop.j2 kj53 t268 (bt275.2.2 != t246) t253 t269) else (laws_FnExactWheelStop.j2 kj53 t268 true t253 t269)))) = some r := H
           have A83 := Aside0.mk A830; clear A830; replace H := Option.bind_eq_some_iff.mp H
           obtain ⟨⟨t275, t276, t279⟩, A840, H⟩ := H
           replace H : ((laws_eqWheel.f kj53 t275 t276 t242 t243).bind fun t281 => (if t281 = true then (laws_FnExactWheelStop.j2 kj53 t268 (t279 != t246) t253 t269) else (laws_FnExactWheelStop.j2 kj53 t268 true t253 t269))) = some r := H
           have A84 := Aside0.mk A840; clear A840; have HC85 := Aside0.mk H; clear H; have hnb86 := NB236_247.out; have hnc86 := NB247_236.out; have hnb87 := NB236_252.out; have hnc87 := NB252_236.out; have hnb88 := NB236_258.out; have hnc88 := NB258_236.out; obtain ⟨hcz89_0, hcz89_1⟩ := blkz2 BK236.out; have hfz89_0 := blkf BK236.out
           go_upto_region 25 with (first | ((with_reducible refine gate_callee (f := 32) rfl ?_); refine goesL_ (some 79) rfl rfl Try.func32 (by kernel_rfl) rfl #[.agg #[.int .i64 a0_0, .slice A0_1 l0_1.length c0_1]] rfl (by (try simp only [List.map_toArray, List.map_cons, List.map_nil]); first | done | rfl | (simp only [List.length_drop, List.length_take]; rfl)) ?_; (with_reducible refine (laws_toWheel.calls kj53 a0_0 _ _ l0_1 t271 t272 _ ?side1 ?side2 A83.out).mono ?_); (case side1 => repeat (first | exact (Kd.C_below HR0_1.out HB.out) | (with_reducible refine Kd.C_alloc ?_ _) | (with_reducible refine Kd.C_drewN ?_ _) | (with_reducible refine Kd.C_drew ?_))); (case side2 => exact HC0_1.out); rintro e w90 ⟨v273, rfl, ho0, hb⟩; refine ⟨_, rfl, ?_⟩; have n_ := an (Kd.R_elder' (by exact Kd.R_nw HO_248001.out) (Kd.R_base ho0) hb) (an (Kd.R_elder' (by exact Kd.R_nw HO_253001.out) (Kd.R_base ho0) hb) (an (Kd.R_elder' (by exact Kd.R_nw HO_259001.out) (Kd.R_base ho0) hb) (an (Kd.R_lower (Kd.R_new' (Kd.R_new' (Kd.R_new' ho0 (Kd.R_lt (by exact Kd.R_nw HO_248001.out))) (Kd.R_lt (by exact Kd.R_nw HO_253001.out))) (Kd.R_lt (by exact Kd.R_nw HO_259001.out))) (below_size (by exact bel0))) (an (blk_below (blk_nw BK236.out) hb) (an (blk_below (blk_nw BK247.out) hb) (an (blk_below (blk_nw BK252.out) hb) (an (blk_below (blk_nw BK258.out) hb) (an (below_step (by exact bel0) hb) (trivial))))))))); clear HO_248001 HO_253001 HO_259001 BK236 BK247 BK252 BK258 HB; obtain ⟨HO_248001, HO_253001, HO_259001, HO274, BK236, BK247, BK252, BK258, HB, -⟩ := n_; (try clear hb); (try clear hb2); (try clear hk); (try clear hi); (try clear ho0); obtain ⟨Ao91, co91, eo91⟩ := Kd.R_slice HO274.out; subst eo91) | ((with_reducible refine gate_callee (f := 33) rfl ?_); refine goesL_ (some 81) rfl rfl Try.func33 (by kernel_rfl) rfl #[.agg #[.int .i64 t271, .slice Ao91 t272.length co91], .int .i64 a1] rfl (by (try simp only [List.map_toArray, List.map_cons, List.map_nil]); first | done | rfl | (simp only [List.length_drop, List.length_take]; rfl)) ?_; (with_reducible refine (impl_WheelStop.calls kj53 t271 _ _ t272 a1 t275 t276 t279 _ ?side1 ?side2 A84.out).mono ?_); (case side1 => repeat (first | exact (Kd.R_reads' HO274.out).2.2 | (with_reducible refine Kd.C_alloc ?_ _) | (with_reducible refine Kd.C_drewN ?_ _) | (with_reducible refine Kd.C_drew ?_))); (case side2 => exact (Kd.R_reads' HO274.out).2.1); rintro e w92 ⟨v277, rfl, ho0, hb⟩; refine ⟨_, rfl, ?_⟩; have n_ := an (Kd.R_elder' (by exact Kd.R_nw HO_248001.out) (Kd.R_base ho0) hb) (an (Kd.R_elder' (by exact Kd.R_nw HO_253001.out) (Kd.R_base ho0) hb) (an (Kd.R_elder' (by exact Kd.R_nw HO_259001.out) (Kd.R_base ho0) hb) (an (Kd.R_elder' (by exact Kd.R_nw HO274.out) (Kd.R_base ho0) hb) (an (Kd.R_lower (Kd.R_new' (Kd.R_new' (Kd.R_new' (Kd.R_new' ho0 (Kd.R_lt (by exact Kd.R_nw HO_248001.out))) (Kd.R_lt (by exact Kd.R_nw HO_253001.out))) (Kd.R_lt (by exact Kd.R_nw HO_259001.out))) (Kd.R_lt (by exact Kd.R_nw HO274.out))) (below_size (by exact bel0))) (an (blk_below (blk_nw BK236.out) hb) (an (blk_below (blk_nw BK247.out) hb) (an (blk_below (blk_nw BK252.out) hb) (an (blk_below (blk_nw BK258.out) hb) (an (below_step (by exact bel0) hb) (trivial)))))))))); clear HO_248001 HO_253001 HO_259001 HO274 BK236 BK247 BK252 BK258 HB; obtain ⟨HO_248001, HO_253001, HO_259001, HO274, HO278, BK236, BK247, BK252, BK258, HB, -⟩ := n_; (try clear hb); (try clear hb2); (try clear hk); (try clear hi); (try clear ho0)) | ((with_reducible refine gate_dst (N := 14) rfl ?_); refine box_event ?hg (N := 14) ?hd (cs := #[.int .i64 0, .slice none 0 0]) (t := 54) ?hr ?_; (case hd => rfl); (case hg => rfl); (case hr => first | (go_simp; done) | (go_simp; rfl)); intro gb280 hg w93 hbox hb; have n_ := an (Kd.R_below (by exact Kd.R_nw HO_248001.out) hb) (an (Kd.R_below (by exact Kd.R_nw HO_253001.out) hb) (an (Kd.R_below (by exact Kd.R_nw HO_259001.out) hb) (an (Kd.R_below (by exact Kd.R_nw HO274.out) hb) (an (Kd.R_below (by exact Kd.R_nw HO278.out) hb) (an (blk_below (blk_nw BK236.out) hb) (an (blk_below (blk_nw BK247.out) hb) (an (blk_below (blk_nw BK252.out) hb) (an (blk_below (blk_nw BK258.out) hb) (an (below_step (by exact bel0) hb) (an (hbox) (an ((by rw [hg]; exact (below_size (by exact bel0)) : w.heap.size ≤ gb280)) (an ((by rw [hg]; exact (below_size (by exact bel0)) : w.heap.size ≤ gb280)) (an ((by rw [hg]; exact Nat.ne_of_lt (blk_lt (blk_nw BK236.out)) : gb236 ≠ gb280)) (an ((by rw [hg]; exact Nat.ne_of_gt (blk_lt (blk_nw BK236.out)) : gb280 ≠ gb236)) (an ((by rw [hg]; exact Nat.ne_of_lt (blk_lt (blk_nw BK247.out)) : gb247 ≠ gb280)) (an ((by rw [hg]; exact Nat.ne_of_gt (blk_lt (blk_nw BK247.out)) : gb280 ≠ gb247)) (an ((by rw [hg]; exact Nat.ne_of_lt (blk_lt (blk_nw BK252.out)) : gb252 ≠ gb280)) (an ((by rw [hg]; exact Nat.ne_of_gt (blk_lt (blk_nw BK252.out)) : gb280 ≠ gb252)) (an ((by rw [hg]; exact Nat.ne_of_lt (blk_lt (blk_nw BK258.out)) : gb258 ≠ gb280)) (an ((by rw [hg]; exact Nat.ne_of_gt (blk_lt (blk_nw BK258.out)) : gb280 ≠ gb258)) (trivial))))))))))))))))))))); clear HO_248001 HO_253001 HO_259001 HO274 HO278 BK236 BK247 BK252 BK258 HB; obtain ⟨HO_248001, HO_253001, HO_259001, HO274, HO278, BK236, BK247, BK252, BK258, HB, BK280, GW280, GE280, NB236_280, NB280_236, NB247_280, NB280_247, NB252_280, NB280_252, NB258_280, NB280_258, -⟩ := n_; clear hb hbox hg; have hnb94 := NB280_236.out; have hnc94 := NB236_280.out; have hnb95 := NB280_247.out; have hnc95 := NB247_280.out; have hnb96 := NB280_252.out; have hnc96 := NB252_280.out; have hnb97 := NB280_258.out; have hnc97 := NB258_280.out; obtain ⟨hcz98_0, hcz98_1⟩ := blkz2 BK280.out; have hfz98_0 := blkf BK280.out; obtain ⟨Ao99, co99, eo99⟩ := Kd.R_slice HO278.out; subst eo99))
           (try simp only [Act.put, List.setIfInBounds_toArray, List.set_cons_zero, List.set_cons_succ])
           go_cut [92] (fun v92 wc => ∃ (kq : Nat) (x92_84 : Bool), v92 = .bool x92_84 ∧ Aside0 (laws_FnExactWheelStop.j2 kq t268 x92_84 t253 t269 = some r) ∧ Aside0 (kq ≤ kj53) ∧ Aside0 (Kd.R k133 133 wc w.heap.size (fun k_ => some k_ ≠ ((.slice Ao27 t266.length co27) : Value).ownBlock ∧ some k_ ≠ ((.slice Ao34 t254.length co34) : Value).ownBlock ∧ some k_ ≠ ((.slice Ao99 t276.length co99) : Value).ownBlock) (.slice Ao20 t243.length co20) t243) ∧ Aside0 (Kd.R k133 133 wc w.heap.size (fun k_ => some k_ ≠ ((.slice Ao20 t243.length co20) : Value).ownBlock ∧ some k_ ≠ ((.slice Ao34 t254.length co34) : Value).ownBlock ∧ some k_ ≠ ((.slice Ao99 t276.length co99) : Value).ownBlock) (.slice Ao27 t266.length co27) t266) ∧ Aside0 (Kd.R k133 133 wc w.heap.size (fun k_ => some k_ ≠ ((.slice Ao20 t243.length co20) : Value).ownBlock ∧ some k_ ≠ ((.slice Ao27 t266.length co27) : Value).ownBlock ∧ some k_ ≠ ((.slice Ao99 t276.length co99) : Value).ownBlock) (.slice Ao34 t254.length co34) t269) ∧ Aside0 (Kd.R k133 133 wc w.heap.size (fun k_ => some k_ ≠ ((.slice Ao20 t243.length co20) : Value).ownBlock ∧ some k_ ≠ ((.slice Ao27 t266.length co27) : Value).ownBlock ∧ some k_ ≠ ((.slice Ao34 t254.length co34) : Value).ownBlock) (.slice Ao99 t276.length co99) t276) ∧ Aside0 (wc.heap[gb236]? = some (.cells #[.int .i64 a0_0, (.slice A0_1 l0_1.length c0_1)] 50 (0, 0))) ∧ Aside0 (wc.heap[gb247]? = some (.cells #[.int .i64 t242, (.slice Ao20 t243.length co20)] 54 (0, 0))) ∧ Aside0 (wc.heap[gb252]? = some (.cells #[.int .i64 t248, (.slice Ao27 t266.length co27)] 54 (0, 0))) ∧ Aside0 (wc.heap[gb258]? = some (.cells #[.int .i64 t253, (.slice Ao34 t254.length co34)] 54 (0, 0))) ∧ Aside0 (wc.heap[gb280]? = some (.cells #[.int .i64 t275, (.slice Ao99 t276.length co99)] 54 (0, 0))) ∧ Aside0 (Below w.heap.size w wc))
           case first =>
            have H := HC85.out; clear HC85; replace H := Option.bind_eq_some_iff.mp H; obtain ⟨t281, A1000, H⟩ := H; have A100 := Aside0.mk A1000; clear A1000; have hnb101 := NB280_236.out; have hnc101 := NB236_280.out; have hnb102 := NB280_247.out; have hnc102 := NB247_280.out; have hnb103 := NB280_252.out; have hnc103 := NB252_280.out; have hnb104 := NB280_258.out; have hnc104 := NB258_280.out; obtain ⟨hcz105_0, hcz105_1⟩ := blkz2 BK280.out; have hfz105_0 := blkf BK280.out; have hnb106 := NB247_236.out; have hnc106 := NB236_247.out; have hnb107 := NB247_252.out; have hnc107 := NB252_247.out; have hnb108 := NB247_258.out; have hnc108 := NB258_247.out; obtain ⟨hcz109_0, hcz109_1⟩ := blkz2 BK247.out; have hfz109_0 := blkf BK247.out
            replace H := Aside0.mk H
            go_wp2_with (first | ((with_reducible refine gate_callee (f := 34) rfl ?_); refine goesL_ (some 86) rfl rfl Try.func34 (by kernel_rfl) rfl #[.agg #[.int .i64 t275, .slice Ao99 t276.length co99], .agg #[.int .i64 t242, .slice Ao20 t243.length co20]] rfl (by (try simp only [List.map_toArray, List.map_cons, List.map_nil]); first | done | rfl | (simp only [List.length_drop, List.length_take]; rfl)) ?_; (with_reducible refine (laws_eqWheel.calls kj53 t275 _ _ t276 t242 _ _ t243 t281 _ ?side1 ?side2 ?side3 ?side4 A100.out).mono ?_); (case side1 => refine (Kd.R_reads' (e := 133) (base := w.heap.size) (ok := fun k_ => ((((True ∧ some k_ ≠ (.slice Ao20 t243.length co20 : Value).ownBlock) ∧ some k_ ≠ (.slice Ao27 t266.length co27 : Value).ownBlock) ∧ some k_ ≠ (.slice Ao34 t254.length co34 : Value).ownBlock) ∧ some k_ ≠ (.slice Ao91 t272.length co91 : Value).ownBlock)) (n := t276.length) (c := co99) ?_).2.2; exact (by exact (Kd.R_farN HO278.out BK280.out))); (case side2 => exact (Kd.R_reads' HO278.out).2.1); (case side3 => refine (Kd.R_reads' (e := 133) (base := w.heap.size) (ok := fun k_ => (((some k_ ≠ (.slice Ao27 t266.length co27 : Value).ownBlock ∧ some k_ ≠ (.slice Ao34 t254.length co34 : Value).ownBlock) ∧ some k_ ≠ (.slice Ao91 t272.length co91 : Value).ownBlock) ∧ some k_ ≠ (.slice Ao99 t276.length co99 : Value).ownBlock)) (n := t243.length) (c := co20) ?_).2.2; exact (by exact (Kd.R_farN HO_248001.out BK280.out))); (case side4 => exact (Kd.R_reads' HO_248001.out).2.1); rintro e w110 ⟨rfl, hb⟩; refine ⟨_, rfl, ?_⟩; have n_ := an (Kd.R_below (by exact (Kd.R_farN HO_248001.out BK280.out)) hb) (an (Kd.R_below (by exact (Kd.R_farN HO_253001.out BK280.out)) hb) (an (Kd.R_below (by exact (Kd.R_farN HO_259001.out BK280.out)) hb) (an (Kd.R_below (by exact (Kd.R_farN HO274.out BK280.out)) hb) (an (Kd.R_below (by exact (Kd.R_farN HO278.out BK280.out)) hb) (an (blk_below (blk_kb BK236.out NB236_280.out) hb) (an (blk_below (blk_kb BK247.out NB247_280.out) hb) (an (blk_below (blk_kb BK252.out NB252_280.out) hb) (an (blk_below (blk_kb BK258.out NB258_280.out) hb) (an (blk_below (g := gb280) (o := .cells #[.int .i64 t275, .slice Ao99 t276.length co99] 54 (0, 0)) (by (with_reducible repeat (first | refine blk_drewN ?_ _ | refine blk_drew ?_ | refine blk_alloc ?_ _)); exact blk_fill2 BK280.out) hb) (an (below_step (by exact bel0) hb) (trivial))))))))))); clear HO_248001 HO_253001 HO_259001 HO274 HO278 BK236 BK247 BK252 BK258 BK280 HB; obtain ⟨HO_248001, HO_253001, HO_259001, HO274, HO278, BK236, BK247, BK252, BK258, BK280, HB, -⟩ := n_; (try clear hb); (try clear hb2); (try clear hk); (try clear hi); refine Stop.out ?_))
            refine Stop.mk ?_
            replace H := H.out
            by_cases c111 : t281 = true
            ·subst c111; rw [if_pos rfl] at H
             have H' := Aside0.mk H
             clear H
             go_wp2
             go_meet
             case rel => exact ⟨_, ((t279 != t246)), (by first | rfl | (simp; done) | (simp [*]; done)), H', ⟨by have := HJ11.out; have := HJ53.out; first | omega | exact Nat.le_refl _⟩, ⟨by (try simp only [hl253001_53]); exact Kd.R_nw (Kd.R_mono HO_248001.out (fun _ hk => ⟨hk.1.1.1, ⟨hk.1.1.2, hk.2⟩⟩))⟩, ⟨by (try simp only [hl253001_53]); exact Kd.R_nw (Kd.R_mono HO_253001.out (fun _ hk => ⟨hk.1.1.1, ⟨hk.1.1.2, hk.2⟩⟩))⟩, ⟨by (try simp only [hl253001_53]); exact Kd.R_nw (Kd.R_mono HO_259001.out (fun _ hk => ⟨hk.1.1.1, ⟨hk.1.1.2, hk.2⟩⟩))⟩, ⟨by (try simp only [hl253001_53]); exact Kd.R_nw (Kd.R_mono HO278.out (fun _ hk => ⟨hk.1.1.1.2, ⟨hk.1.1.2, hk.1.2⟩⟩))⟩, ⟨by (try simp only [hl253001_53]); exact blk_nw BK236.out⟩, ⟨by (try simp only [hl253001_53]); exact blk_nw BK247.out⟩, ⟨by (try simp only [hl253001_53]); exact blk_nw BK252.out⟩, ⟨by (try simp only [hl253001_53]); exact blk_nw BK258.out⟩, ⟨by (try simp only [hl253001_53]); exact blk_nw BK280.out⟩, ⟨by exact bel0⟩⟩
            ·replace c111 := Bool.eq_false_iff.mpr c111
             subst c111
             rw [if_neg (show ¬ (false = true) by decide)] at H
             have H' := Aside0.mk H
             clear H
             go_wp2
             go_meet
             case rel => exact ⟨_, (true), (by first | rfl | (simp; done) | (simp [*]; done)), H', ⟨by have := HJ11.out; have := HJ53.out; first | omega | exact Nat.le_refl _⟩, ⟨by (try simp only [hl253001_53]); exact Kd.R_nw (Kd.R_mono HO_248001.out (fun _ hk => ⟨hk.1.1.1, ⟨hk.1.1.2, hk.2⟩⟩))⟩, ⟨by (try simp only [hl253001_53]); exact Kd.R_nw (Kd.R_mono HO_253001.out (fun _ hk => ⟨hk.1.1.1, ⟨hk.1.1.2, hk.2⟩⟩))⟩, ⟨by (try simp only [hl253001_53]); exact Kd.R_nw (Kd.R_mono HO_259001.out (fun _ hk => ⟨hk.1.1.1, ⟨hk.1.1.2, hk.2⟩⟩))⟩, ⟨by (try simp only [hl253001_53]); exact Kd.R_nw (Kd.R_mono HO278.out (fun _ hk => ⟨hk.1.1.1.2, ⟨hk.1.1.2, hk.1.2⟩⟩))⟩, ⟨by (try simp only [hl253001_53]); exact blk_nw BK236.out⟩, ⟨by (try simp only [hl253001_53]); exact blk_nw BK247.out⟩, ⟨by (try simp only [hl253001_53]); exact blk_nw BK252.out⟩, ⟨by (try simp only [hl253001_53]); exact blk_nw BK258.out⟩, ⟨by (try simp only [hl253001_53]); exact blk_nw BK280.out⟩, ⟨by exact bel0⟩⟩
           case rest =>
            clear HC85; try clear c1; try clear c2; try clear p2; try clear c3; try clear c4; try clear c5; try clear c6; try clear c7; try clear c7b0; try clear c8; try clear c9; try clear c10; try clear c11; try clear c18; try clear c24; try clear c25; try clear c30; try clear c31; try clear c32; try clear c33; try clear c34; try clear c35; try clear c36; try clear c37; try clear c38; try clear c40; try clear c41; try clear c44; try clear c45; try clear c52; try clear c55; try clear c56; try clear c57; try clear c60; try clear c60b0; try clear c62; try clear c63; try clear c64; try clear c66; try clear c67; try clear c70; try clear c71; try clear c74; try clear c75; try clear c76; try clear c81; try clear c81b0; try clear c82; try clear c82b0; try clear c82b1; try clear c86; try clear c87; try clear c88; try clear c94; try clear c95; try clear c96; try clear c97; try clear c101; try clear c102; try clear c103; try clear c104; try clear c106; try clear c107; try clear c108; try clear c111; try clear hcz105_0; try clear hcz105_1; try clear hcz109_0; try clear hcz109_1; try clear hcz13_0; try clear hcz13_1; try clear hcz19_0; try clear hcz19_1; try clear hcz21_0; try clear hcz21_1; try clear hcz26_0; try clear hcz26_1; try clear hcz33_0; try clear hcz33_1; try clear hcz39_0; try clear hcz39_1; try clear hcz42_0; try clear hcz42_1; try clear hcz58_0; try clear hcz58_1; try clear hcz5_0; try clear hcz5_1; try clear hcz65_0; try clear hcz65_1; try clear hcz68_0; try clear hcz68_1; try clear hcz77_0; try clear hcz77_1; try clear hcz79_0; try clear hcz79_1; try clear hcz89_0; try clear hcz89_1; try clear hcz98_0; try clear hcz98_1; try clear hfz105_0; try clear hfz105_1; try clear hfz109_0; try clear hfz109_1; try clear hfz13_0; try clear hfz13_1; try clear hfz19_0; try clear hfz19_1; try clear hfz21_0; try clear hfz21_1; try clear hfz26_0; try clear hfz26_1; try clear hfz33_0; try clear hfz33_1; try clear hfz39_0; try clear hfz39_1; try clear hfz42_0; try clear hfz42_1; try clear hfz58_0; try clear hfz58_1; try clear hfz5_0; try clear hfz5_1; try clear hfz65_0; try clear hfz65_1; try clear hfz68_0; try clear hfz68_1; try clear hfz77_0; try clear hfz77_1; try clear hfz79_0; try clear hfz79_1; try clear hfz89_0; try clear hfz89_1; try clear hfz98_0; try clear hfz98_1; try clear p2
            obtain ⟨kq, x92_84, rfl, HA, HJ84, HO_248001, HO_253001, HO_259001, HO_281001, BK236, BK247, BK252, BK258, BK280, HB⟩ := hcut
            have hl259001_84 := (Kd.R_reads' HO_259001.out).1
            rw [hl259001_84] at HO_259001
            (try simp only [hl259001_84])
            (try simp only [hl259001_84] at BK236)
            (try simp only [hl259001_84] at BK247)
            (try simp only [hl259001_84] at BK252)
            (try simp only [hl259001_84] at BK258)
            (try simp only [hl259001_84] at BK280)
            (try simp only [hl259001_84] at HO_248001)
            (try simp only [hl259001_84] at HO_253001)
            (try simp only [hl259001_84] at HO_281001)
            cases kq with
            | zero => exact absurd HA.out (by simp [laws_FnExactWheelStop.j2])
            | succ kj84 =>
             have H := HA.out; clear HA
             simp only [laws_FnExactWheelStop.j2] at H
             by_cases c112 : x92_84 = true
             ·subst c112; rw [if_pos rfl] at H
              obtain rfl := Option.some.inj H
              go_wp2
              go_ret
              exact ⟨by first | rfl | (simp [errW_none, errW_some] <;> rfl) | (simp [*, errW_none, errW_some] <;> rfl), by exact bel0⟩
             ·replace c112 := Bool.eq_false_iff.mpr c112
              subst c112
              rw [if_neg (show ¬ (false = true) by decide)] at H
              replace H := Option.bind_eq_some_iff.mp H; obtain ⟨t282, A1130, H⟩ := H; have A113 := Aside0.mk A1130; clear A1130; have hnb114 := NB258_236.out; have hnc114 := NB236_258.out; have hnb115 := NB258_247.out; have hnc115 := NB247_258.out; have hnb116 := NB258_252.out; have hnc116 := NB252_258.out; have hnb117 := NB258_280.out; have hnc117 := NB280_258.out; obtain ⟨hcz118_0, hcz118_1⟩ := blkz2 BK258.out; have hfz118_0 := blkf BK258.out
              replace H := Aside0.mk H
              go_wp2_with (first | ((with_reducible refine gate_callee (f := 36) rfl ?_); refine goesL_ (some 95) rfl rfl Try.func36 (by kernel_rfl) rfl #[.agg #[.int .i64 t253, .slice Ao34 t269.length co34], .int .i64 1] rfl (by (try simp only [List.map_toArray, List.map_cons, List.map_nil]); first | done | rfl | (simp only [List.length_drop, List.length_take]; rfl)) ?_; (with_reducible refine (laws_heldWheel.calls kj84 t253 _ _ t269 1 t282 _ ?side1 ?side2 A113.out).mono ?_); (case side1 => repeat (first | exact (Kd.R_reads' HO_259001.out).2.2 | (with_reducible refine Kd.C_alloc ?_ _) | (with_reducible refine Kd.C_drewN ?_ _) | (with_reducible refine Kd.C_drew ?_))); (case side2 => exact (Kd.R_reads' HO_259001.out).2.1); rintro e w119 ⟨rfl, hb⟩; refine ⟨_, rfl, ?_⟩; have n_ := an (Kd.R_below (by exact Kd.R_nw HO_248001.out) hb) (an (Kd.R_below (by exact Kd.R_nw HO_253001.out) hb) (an (Kd.R_below (by exact Kd.R_nw HO_259001.out) hb) (an (Kd.R_below (by exact Kd.R_nw HO_281001.out) hb) (an (blk_below (blk_nw BK236.out) hb) (an (blk_below (blk_nw BK247.out) hb) (an (blk_below (blk_nw BK252.out) hb) (an (blk_below (blk_nw BK258.out) hb) (an (blk_below (blk_nw BK280.out) hb) (an (below_step (by exact bel0) hb) (trivial)))))))))); clear HO_248001 HO_253001 HO_259001 HO_281001 BK236 BK247 BK252 BK258 BK280 HB; obtain ⟨HO_248001, HO_253001, HO_259001, HO_281001, BK236, BK247, BK252, BK258, BK280, HB, -⟩ := n_; (try clear hb); (try clear hb2); (try clear hk); (try clear hi); refine Stop.out ?_))
              refine Stop.mk ?_
              replace H := H.out
              by_cases c120 : t282 < 0
              ·rw [if_pos c120] at H; have c120b0 : decide (t282 < 0) = true := decide_eq_true c120; clear c120; (try simp only [c120b0])
               obtain rfl := Option.some.inj H
               go_wp2
               go_ret
               exact ⟨by first | rfl | (simp [errW_none, errW_some] <;> rfl) | (simp [*, errW_none, errW_some] <;> rfl), by exact bel0⟩
              ·rw [if_neg c120] at H; have c120b0 : decide (t282 < 0) = false := decide_eq_false c120; clear c120; (try simp only [c120b0])
               by_cases c121 : t282 = t268
               ·rw [if_pos c121] at H; have c121b0 : (t282 == t268) = true := beq_iff_eq.mpr c121; have c121b1 : (t282 != t268) = false := bne_eq_false_iff_eq.mpr c121; clear c121
                obtain rfl := Option.some.inj H
                go_wp2
                go_ret
                exact ⟨by first | rfl | (simp [errW_none, errW_some] <;> rfl) | (simp [*, errW_none, errW_some] <;> rfl), by exact bel0⟩
               ·rw [if_neg c121] at H; have c121b0 : (t282 == t268) = false := beq_eq_false_iff_ne.mpr c121; have c121b1 : (t282 != t268) = true := bne_iff_ne.mpr c121
                obtain rfl := Option.some.inj H
                go_wp2
                go_ret
                exact ⟨by first | rfl | (simp [errW_none, errW_some] <;> rfl) | (simp [*, errW_none, errW_some] <;> rfl), by exact bel0⟩
          ·rw [if_neg c82] at H; have c82b0 : (t270 == t268) = false := beq_eq_false_iff_ne.mpr c82; have c82b1 : (t270 != t268) = true := bne_iff_ne.mpr c82
           obtain rfl := Option.some.inj H
           go_wp2
           go_ret
           exact ⟨by first | rfl | (simp [errW_none, errW_some] <;> rfl) | (simp [*, errW_none, errW_some] <;> rfl), by exact bel0⟩
     ·replace c52 := Bool.eq_false_iff.mpr c52
      subst c52
      rw [if_neg (show ¬ (false = true) by decide)] at H
      obtain rfl := Option.some.inj H
      go_wp2
      go_ret
      exact ⟨by first | rfl | (simp [errW_none, errW_some] <;> rfl) | (simp [*, errW_none, errW_some] <;> rfl), by exact bel0⟩

end Go.Proofs.Ytigoajblljolcaa.XFnExactWheelStop
