-- Written by this session's own program (xprint.py) over the kit's print.
import Derived.Test.YtigoajblljolcaaXFnExactMergex0
import Derived.Test.YtigoajblljolcaaXFnExactMergex1
import Derived.Test.YtigoajblljolcaaXFnExactMergex2
import Derived.Test.YtigoajblljolcaaXFnExactMergex6
import Derived.Test.YtigoajblljolcaaXFnExactMergex9
namespace Go.Proofs.Ytigoajblljolcaa.XFnExactMerge
open Go.RowKit Go.Proofs.YtigoajblljolcaaW.PrintWords Go.Proofs.YtigoajblljolcaaW.PrintLast Go.Proofs.YtigoajblljolcaaW.PrintMore
attribute [local go_sem] max2_int min2_int max_two min_two max_three min_three max_four min_four   -- for this text's walks alone
set_option linter.unusedVariables false
set_option linter.unusedSimpArgs false


/-! ### laws_FnExactMerge: function 11 -/
mutual
def laws_FnExactMerge.j0 : Nat → Bool → Bool → Bool → Int → List (S80) → Int → List (S80) → Int → List (S82) → Int → List (S82) → Int → List (S82) → Int → List (S82) → Option (Bool)
  | 0, _, _, _, _, _, _, _, _, _, _, _, _, _, _, _ => none
  | k + 1, x7, x11, x53, x268000, x268001, x269000, x269001, x285000, x285001, x290000, x290001, x295000, x295001, x301000, x301001 => if x53 = true then (some false) else ((laws_toTable.f k x268000 x268001).bind fun bt302 => ((laws_eqTable.f k x290000 x290001 bt302.1 bt302.2).bind fun t306 => (if t306 = true then ((laws_toTable.f k x269000 x269001).bind fun bt307 => ((laws_eqTable.f k x295000 x295001 bt307.1 bt307.2).bind fun t311 => (if t311 = true then ((laws_markTable.f k x290000 x290001 1).bind fun bt312 => ((laws_markTable.f k x295000 x295001 bt312.1).bind fun bt314 => (if bt314.1 < 0 then (laws_FnExactMerge.j1 k x7 true x268000 x268001 x269000 x269001 x285000 x285001 x301000 x301001) else ((laws_eqTable.f k x301000 x301001 x285000 x285001).bind fun t316 => (if t316 = true then (laws_FnExactMerge.j1 k x7 (x11 != x7) x268000 x268001 x269000 x269001 x285000 x285001 x301000 x301001) else (laws_FnExactMerge.j1 k x7 true x268000 x268001 x269000 x269001 x285000 x285001 x301000 x301001)))))) else (some false)))) else (some false))))
def laws_FnExactMerge.j1 : Nat → Bool → Bool → Int → List (S80) → Int → List (S80) → Int → List (S82) → Int → List (S82) → Option (Bool)
  | 0, _, _, _, _, _, _, _, _, _, _ => none
  | k + 1, x7, x82, x268000, x268001, x269000, x269001, x285000, x285001, x301000, x301001 => if x82 = true then (some false) else ((laws_markTable.f k x301000 x301001 1).bind fun bt317 => ((laws_heldTable.f k x301000 bt317.2 1).bind fun t319 => (if t319 < 0 then (some false) else (if t319 = bt317.1 then ((laws_toTable.f k x268000 x268001).bind fun bt320 => ((laws_toTable.f k x269000 x269001).bind fun bt324 => ((impl_Merge.f k bt320.1 bt320.2 bt324.1 bt324.2).bind fun bt328 => ((laws_eqTable.f k bt328.1 bt328.2.1 x285000 x285001).bind fun t334 => (if t334 = true then (laws_FnExactMerge.j2 k bt317.1 (bt328.2.2 != x7) x301000 bt317.2) else (laws_FnExactMerge.j2 k bt317.1 true x301000 bt317.2)))))) else (some false)))))
def laws_FnExactMerge.j2 : Nat → Int → Bool → Int → List (S82) → Option (Bool)
  | 0, _, _, _, _ => none
  | k + 1, x13, x110, x301000, x301001 => if x110 = true then (some false) else ((laws_heldTable.f k x301000 x301001 1).bind fun t335 => (if t335 < 0 then (some false) else (if t335 = x13 then (some true) else (some false))))
end
def laws_FnExactMerge.f (k : Nat) (a0_0 : Int) (l0_1 : List (S80)) (a1_0 : Int) (l1_1 : List (S80)) : Option (Bool) := (laws_szTable.f a0_0 l0_1 1048576).bind fun t269 => (if t269 < 0 then (some true) else ((laws_szTable.f a1_0 l1_1 t269).bind fun t270 => (if t270 < 0 then (some true) else ((laws_toTable.f k a0_0 l0_1).bind fun bt271 => ((laws_toTable.f k a1_0 l1_1).bind fun bt275 => ((spec_Merge.f k bt271.1 bt271.2 bt275.1 bt275.2).bind fun bt279 => ((laws_toTable.f k a0_0 l0_1).bind fun bt285 => ((laws_toTable.f k a1_0 l1_1).bind fun bt290 => ((impl_Merge.f k bt285.1 bt285.2 bt290.1 bt290.2).bind fun bt295 => ((laws_eqTable.f k bt295.1 bt295.2.1 bt279.1 bt279.2.1).bind fun t301 => (if t301 = true then (laws_FnExactMerge.j0 k bt279.2.2 bt295.2.2 (bt295.2.2 != bt279.2.2) a0_0 l0_1 a1_0 l1_1 bt279.1 bt279.2.1 bt285.1 bt285.2 bt290.1 bt290.2 bt295.1 bt295.2.1) else (laws_FnExactMerge.j0 k bt279.2.2 bt295.2.2 true a0_0 l0_1 a1_0 l1_1 bt279.1 bt279.2.1 bt285.1 bt285.2 bt290.1 bt290.2 bt295.1 bt295.2.1))))))))))))
theorem laws_FnExactMerge.mono_l : ∀ k, (∀ y0 y1 y2 y3 y4 y5 y6 y7 y8 y9 y10 y11 y12 y13 y14, LeO (laws_FnExactMerge.j0 k y0 y1 y2 y3 y4 y5 y6 y7 y8 y9 y10 y11 y12 y13 y14) (laws_FnExactMerge.j0 (k + 1) y0 y1 y2 y3 y4 y5 y6 y7 y8 y9 y10 y11 y12 y13 y14)) ∧ (∀ y0 y1 y2 y3 y4 y5 y6 y7 y8 y9, LeO (laws_FnExactMerge.j1 k y0 y1 y2 y3 y4 y5 y6 y7 y8 y9) (laws_FnExactMerge.j1 (k + 1) y0 y1 y2 y3 y4 y5 y6 y7 y8 y9)) ∧ (∀ y0 y1 y2 y3, LeO (laws_FnExactMerge.j2 k y0 y1 y2 y3) (laws_FnExactMerge.j2 (k + 1) y0 y1 y2 y3))
 | 0 => ⟨fun _ _ _ _ _ _ _ _ _ _ _ _ _ _ _ r h => by simp [laws_FnExactMerge.j0] at h, fun _ _ _ _ _ _ _ _ _ _ r h => by simp [laws_FnExactMerge.j1] at h, fun _ _ _ _ r h => by simp [laws_FnExactMerge.j2] at h⟩
 | k + 1 => by
  obtain ⟨ih0, ih1, ih2⟩ := laws_FnExactMerge.mono_l k
  refine ⟨?_, ?_, ?_⟩
  ·intro y0 y1 y2 y3 y4 y5 y6 y7 y8 y9 y10 y11 y12 y13 y14
   unfold laws_FnExactMerge.j0
   repeat' first
   | (with_reducible exact ih0 _ _ _ _ _ _ _ _ _ _ _ _ _ _ _)
   | (with_reducible exact ih1 _ _ _ _ _ _ _ _ _ _)
   | (with_reducible exact ih2 _ _ _ _)
   | (with_reducible exact impl_Merge.mono _ _ _ _ _)
   | (with_reducible exact laws_eqTable.mono _ _ _ _ _)
   | (with_reducible exact laws_heldTable.mono _ _ _ _)
   | (with_reducible exact laws_markTable.mono _ _ _ _)
   | (with_reducible exact laws_toTable.mono _ _ _)
   | (with_reducible exact spec_Merge.mono _ _ _ _ _)
   | (with_reducible exact LeO.refl _)
   | (with_reducible exact LeO.none _)
   | (with_reducible refine LeO.ite ?_ ?_)
   | (with_reducible refine LeO.bind ?_ (fun _ => ?_))
   | exact ih0 _ _ _ _ _ _ _ _ _ _ _ _ _ _ _
   | exact ih1 _ _ _ _ _ _ _ _ _ _
   | exact ih2 _ _ _ _
   | exact impl_Merge.mono _ _ _ _ _
   | exact laws_eqTable.mono _ _ _ _ _
   | exact laws_heldTable.mono _ _ _ _
   | exact laws_markTable.mono _ _ _ _
   | exact laws_toTable.mono _ _ _
   | exact spec_Merge.mono _ _ _ _ _
   | exact LeO.none _
   | refine LeO.ite ?_ ?_
   | refine LeO.bind ?_ (fun _ => ?_)
  ·intro y0 y1 y2 y3 y4 y5 y6 y7 y8 y9
   unfold laws_FnExactMerge.j1
   repeat' first
   | (with_reducible exact ih0 _ _ _ _ _ _ _ _ _ _ _ _ _ _ _)
   | (with_reducible exact ih1 _ _ _ _ _ _ _ _ _ _)
   | (with_reducible exact ih2 _ _ _ _)
   | (with_reducible exact impl_Merge.mono _ _ _ _ _)
   | (with_reducible exact laws_eqTable.mono _ _ _ _ _)
   | (with_reducible exact laws_heldTable.mono _ _ _ _)
   | (with_reducible exact laws_markTable.mono _ _ _ _)
   | (with_reducible exact laws_toTable.mono _ _ _)
   | (with_reducible exact spec_Merge.mono _ _ _ _ _)
   | (with_reducible exact LeO.refl _)
   | (with_reducible exact LeO.none _)
   | (with_reducible refine LeO.ite ?_ ?_)
   | (with_reducible refine LeO.bind ?_ (fun _ => ?_))
   | exact ih0 _ _ _ _ _ _ _ _ _ _ _ _ _ _ _
   | exact ih1 _ _ _ _ _ _ _ _ _ _
   | exact ih2 _ _ _ _
   | exact impl_Merge.mono _ _ _ _ _
   | exact laws_eqTable.mono _ _ _ _ _
   | exact laws_heldTable.mono _ _ _ _
   | exact laws_markTable.mono _ _ _ _
   | exact laws_toTable.mono _ _ _
   | exact spec_Merge.mono _ _ _ _ _
   | exact LeO.none _
   | refine LeO.ite ?_ ?_
   | refine LeO.bind ?_ (fun _ => ?_)
  ·intro y0 y1 y2 y3
   unfold laws_FnExactMerge.j2
   repeat' first
   | (with_reducible exact ih0 _ _ _ _ _ _ _ _ _ _ _ _ _ _ _)
   | (with_reducible exact ih1 _ _ _ _ _ _ _ _ _ _)
   | (with_reducible exact ih2 _ _ _ _)
   | (with_reducible exact impl_Merge.mono _ _ _ _ _)
   | (with_reducible exact laws_eqTable.mono _ _ _ _ _)
   | (with_reducible exact laws_heldTable.mono _ _ _ _)
   | (with_reducible exact laws_markTable.mono _ _ _ _)
   | (with_reducible exact laws_toTable.mono _ _ _)
   | (with_reducible exact spec_Merge.mono _ _ _ _ _)
   | (with_reducible exact LeO.refl _)
   | (with_reducible exact LeO.none _)
   | (with_reducible refine LeO.ite ?_ ?_)
   | (with_reducible refine LeO.bind ?_ (fun _ => ?_))
   | exact ih0 _ _ _ _ _ _ _ _ _ _ _ _ _ _ _
   | exact ih1 _ _ _ _ _ _ _ _ _ _
   | exact ih2 _ _ _ _
   | exact impl_Merge.mono _ _ _ _ _
   | exact laws_eqTable.mono _ _ _ _ _
   | exact laws_heldTable.mono _ _ _ _
   | exact laws_markTable.mono _ _ _ _
   | exact laws_toTable.mono _ _ _
   | exact spec_Merge.mono _ _ _ _ _
   | exact LeO.none _
   | refine LeO.ite ?_ ?_
   | refine LeO.bind ?_ (fun _ => ?_)
theorem laws_FnExactMerge.mono : ∀ a0 a1 a2 a3 k, LeO (laws_FnExactMerge.f k a0 a1 a2 a3) (laws_FnExactMerge.f (k + 1) a0 a1 a2 a3) := by
 intro a0 a1 a2 a3 k
 obtain ⟨ih0, ih1, ih2⟩ := laws_FnExactMerge.mono_l k
 unfold laws_FnExactMerge.f
 repeat' first
   | (with_reducible exact ih0 _ _ _ _ _ _ _ _ _ _ _ _ _ _ _)
   | (with_reducible exact ih1 _ _ _ _ _ _ _ _ _ _)
   | (with_reducible exact ih2 _ _ _ _)
   | (with_reducible exact impl_Merge.mono _ _ _ _ _)
   | (with_reducible exact laws_eqTable.mono _ _ _ _ _)
   | (with_reducible exact laws_heldTable.mono _ _ _ _)
   | (with_reducible exact laws_markTable.mono _ _ _ _)
   | (with_reducible exact laws_toTable.mono _ _ _)
   | (with_reducible exact spec_Merge.mono _ _ _ _ _)
   | (with_reducible exact LeO.refl _)
   | (with_reducible exact LeO.none _)
   | (with_reducible refine LeO.ite ?_ ?_)
   | (with_reducible refine LeO.bind ?_ (fun _ => ?_))
   | exact ih0 _ _ _ _ _ _ _ _ _ _ _ _ _ _ _
   | exact ih1 _ _ _ _ _ _ _ _ _ _
   | exact ih2 _ _ _ _
   | exact impl_Merge.mono _ _ _ _ _
   | exact laws_eqTable.mono _ _ _ _ _
   | exact laws_heldTable.mono _ _ _ _
   | exact laws_markTable.mono _ _ _ _
   | exact laws_toTable.mono _ _ _
   | exact spec_Merge.mono _ _ _ _ _
   | exact LeO.none _
   | refine LeO.ite ?_ ?_
   | refine LeO.bind ?_ (fun _ => ?_)
def laws_FnExactMerge.T8 : Bool × List (List Nat × List Nat) := (true, [([], []), ([0], [0]), ([], []), ([2, 1], [2]), ([1, 3, 3], [1, 3]), ([4], [4]), ([5], [5]), ([5], [5]), ([], []), ([8, 6, 4, 0, 1, 2, 3, 4, 5, 6, 8], [6, 8]), ([7, 9, 0, 1, 2, 3, 4, 5, 6, 7, 8, 9], [7])])
def laws_FnExactMerge.B8 : List Nat := [0, 1, 0, 7, 15, 31, 63, 63, 0, 383, 1023]
theorem laws_FnExactMerge.tab8 : rtab .any (opsOf Try.f11 8) = laws_FnExactMerge.T8 := by kernel_rfl
theorem laws_FnExactMerge.bits8 : waitsOk laws_FnExactMerge.T8.2 laws_FnExactMerge.B8 = true := by kernel_rfl
def laws_FnExactMerge.T31 : Bool × List (List Nat × List Nat) := (true, [([], []), ([0], [0]), ([], []), ([2, 1], [2]), ([1, 3, 3], [1, 3]), ([4], [4]), ([5], [5]), ([5], [5]), ([], []), ([8, 6, 4, 0, 1, 2, 3, 4, 5, 6, 8], [6, 8]), ([7, 9, 0, 1, 2, 3, 4, 5, 6, 7, 8, 9], [7])])
def laws_FnExactMerge.B31 : List Nat := [0, 1, 0, 7, 15, 31, 63, 63, 0, 383, 1023]
theorem laws_FnExactMerge.tab31 : rtab .any (opsOf Try.f11 31) = laws_FnExactMerge.T31 := by kernel_rfl
theorem laws_FnExactMerge.bits31 : waitsOk laws_FnExactMerge.T31.2 laws_FnExactMerge.B31 = true := by kernel_rfl
set_option maxHeartbeats 8000000 in
set_option maxRecDepth 100000 in
theorem laws_FnExactMerge.calls (k : Nat) (a0_0 : Int) (A0_1 : Option Addr) (c0_1 : Nat) (l0_1 : List (S80)) (a1_0 : Int) (A1_1 : Option Addr) (c1_1 : Nat) (l1_1 : List (S80)) (r : Bool) (w : World) (hr0_1 : Kd.C k80 w A0_1 l0_1.length l0_1) (hc0_1 : l0_1.length ≤ c0_1) (hr1_1 : Kd.C k80 w A1_1 l1_1.length l1_1) (hc1_1 : l1_1.length ≤ c1_1) (h : laws_FnExactMerge.f k a0_0 l0_1 a1_0 l1_1 = some r) :
  Calls Try.prog 11 #[.agg #[.int .i64 a0_0, .slice A0_1 l0_1.length c0_1], .agg #[.int .i64 a1_0, .slice A1_1 l1_1.length c1_1]] w fun e w' => e = .returned (.bool r) ∧ Below w.heap.size w w' := by
 have hu37 := Try.underlying37
 have hu41 := Try.underlying41
 have HR0_1 := Aside0.mk hr0_1; have HC0_1 := Aside0.mk hc0_1; clear hr0_1 hc0_1; have HR1_1 := Aside0.mk hr1_1; have HC1_1 := Aside0.mk hc1_1; clear hr1_1 hc1_1
 have HB := Aside0.mk (Below.refl w.heap.size w)
 have H : ((laws_szTable.f a0_0 l0_1 1048576).bind fun t269 => (if t269 < 0 then (some true) else ((laws_szTable.f a1_0 l1_1 t269).bind fun t270 => (if t270 < 0 then (some true) else ((laws_toTable.f k a0_0 l0_1).bind fun bt271 => ((laws_toTable.f k a1_0 l1_1).bind fun bt275 => ((spec_Merge.f k bt271.1 bt271.2 bt275.1 bt275.2).bind fun bt279 => ((laws_toTable.f k a0_0 l0_1).bind fun bt285 => ((laws_toTable.f k a1_0 l1_1).bind fun bt290 => ((impl_Merge.f k bt285.1 bt285.2 bt290.1 bt290.2).bind fun bt295 => ((laws_eqTable.f k bt295.1 bt295.2.1 bt279.1 bt279.2.1).bind fun t301 => (if t301 = true then (laws_FnExactMerge.j0 k bt279.2.2 bt295.2.2 (bt295.2.2 != bt279.2.2) a0_0 l0_1 a1_0 l1_1 bt279.1 bt279.2.1 bt285.1 bt285.2 bt290.1 bt290.2 bt295.1 bt295.2.1) else (laws_FnExactMerge.j0 k bt279.2.2 bt295.2.2 true a0_0 l0_1 a1_0 l1_1 bt279.1 bt279.2.1 bt285.1 bt285.2 bt290.1 bt290.2 bt295.1 bt295.2.1))))))))))))) = some r := h
 clear h; replace H := Option.bind_eq_some_iff.mp H; obtain ⟨t269, A30, H⟩ := H; have A3 := Aside0.mk A30; clear A30; go_enter Try.func11, Try.ntmps11
 replace H := Aside0.mk H
 go_wp2_with (first | ((with_reducible refine gate_dst (N := 2) rfl ?_); refine box_event ?hg (N := 2) ?hd (cs := #[.int .i64 a0_0, .slice A0_1 l0_1.length c0_1]) (t := 37) ?hr ?_; (case hd => rfl); (case hg => rfl); (case hr => first | (go_simp; done) | (go_simp; rfl)); intro gb267 hg w4 hbox hb; have n_ := an (below_step (by exact bel0) hb) (an (hbox) (an ((by rw [hg]; exact (below_size (by exact bel0)) : w.heap.size ≤ gb267)) (an ((by rw [hg]; exact (below_size (by exact bel0)) : w.heap.size ≤ gb267)) (trivial)))); clear HB; obtain ⟨HB, BK267, GW267, GE267, -⟩ := n_; clear hb hbox hg) | ((with_reducible refine gate_dst (N := 3) rfl ?_); refine box_event ?hg (N := 3) ?hd (cs := #[.int .i64 a1_0, .slice A1_1 l1_1.length c1_1]) (t := 37) ?hr ?_; (case hd => rfl); (case hg => rfl); (case hr => first | (go_simp; done) | (go_simp; rfl)); intro gb268 hg w5 hbox hb; have n_ := an (blk_below (blk_nw BK267.out) hb) (an (below_step (by exact bel0) hb) (an (hbox) (an ((by rw [hg]; exact (below_size (by exact bel0)) : w.heap.size ≤ gb268)) (an ((by rw [hg]; exact (below_size (by exact bel0)) : w.heap.size ≤ gb268)) (an ((by rw [hg]; exact Nat.ne_of_lt (blk_lt (blk_nw BK267.out)) : gb267 ≠ gb268)) (an ((by rw [hg]; exact Nat.ne_of_gt (blk_lt (blk_nw BK267.out)) : gb268 ≠ gb267)) (trivial))))))); clear BK267 HB; obtain ⟨BK267, HB, BK268, GW268, GE268, NB267_268, NB268_267, -⟩ := n_; clear hb hbox hg; have hnb6 := NB267_268.out; have hnc6 := NB268_267.out; obtain ⟨hcz7_0, hcz7_1⟩ := blkz2 BK267.out; have hfz7_0 := blkf BK267.out) | ((with_reducible refine gate_callee (f := 23) rfl ?_); refine goesL_ (some 19) rfl rfl Try.func23 (by kernel_rfl) rfl #[.agg #[.int .i64 a0_0, .slice A0_1 l0_1.length c0_1], .int .i64 1048576] rfl (by (try simp only [List.map_toArray, List.map_cons, List.map_nil]); first | done | rfl | (simp only [List.length_drop, List.length_take]; rfl)) ?_; (with_reducible refine (laws_szTable.calls a0_0 _ _ l0_1 1048576 t269 _ ?side1 ?side2 A3.out).mono ?_); (case side1 => repeat (first | exact (Kd.C_below HR0_1.out HB.out) | (with_reducible refine Kd.C_alloc ?_ _) | (with_reducible refine Kd.C_drewN ?_ _) | (with_reducible refine Kd.C_drew ?_))); (case side2 => exact HC0_1.out); rintro e w8 ⟨rfl, hb⟩; refine ⟨_, rfl, ?_⟩; have n_ := an (blk_below (blk_nw BK267.out) hb) (an (blk_below (blk_nw BK268.out) hb) (an (below_step (by exact bel0) hb) (trivial))); clear BK267 BK268 HB; obtain ⟨BK267, BK268, HB, -⟩ := n_; (try clear hb); (try clear hb2); (try clear hk); (try clear hi); refine Stop.out ?_))
 refine Stop.mk ?_
 replace H := H.out
 by_cases c9 : t269 < 0
 ·rw [if_pos c9] at H; have c9b0 : decide (t269 < 0) = true := decide_eq_true c9; clear c9; (try simp only [c9b0])
  obtain rfl := Option.some.inj H
  go_wp2
  go_ret
  exact ⟨by first | rfl | (simp [errW_none, errW_some] <;> rfl) | (simp [*, errW_none, errW_some] <;> rfl), by exact bel0⟩
 ·rw [if_neg c9] at H; have c9b0 : decide (t269 < 0) = false := decide_eq_false c9; clear c9; (try simp only [c9b0]); replace H := Option.bind_eq_some_iff.mp H; obtain ⟨t270, A100, H⟩ := H; have A10 := Aside0.mk A100; clear A100; have hnb11 := NB268_267.out; have hnc11 := NB267_268.out; obtain ⟨hcz12_0, hcz12_1⟩ := blkz2 BK268.out; have hfz12_0 := blkf BK268.out
  replace H := Aside0.mk H
  go_wp2_with (first | ((with_reducible refine gate_callee (f := 23) rfl ?_); refine goesL_ (some 24) rfl rfl Try.func23 (by kernel_rfl) rfl #[.agg #[.int .i64 a1_0, .slice A1_1 l1_1.length c1_1], .int .i64 t269] rfl (by (try simp only [List.map_toArray, List.map_cons, List.map_nil]); first | done | rfl | (simp only [List.length_drop, List.length_take]; rfl)) ?_; (with_reducible refine (laws_szTable.calls a1_0 _ _ l1_1 t269 t270 _ ?side1 ?side2 A10.out).mono ?_); (case side1 => repeat (first | exact (Kd.C_below HR1_1.out HB.out) | (with_reducible refine Kd.C_alloc ?_ _) | (with_reducible refine Kd.C_drewN ?_ _) | (with_reducible refine Kd.C_drew ?_))); (case side2 => exact HC1_1.out); rintro e w13 ⟨rfl, hb⟩; refine ⟨_, rfl, ?_⟩; have n_ := an (blk_below (blk_nw BK267.out) hb) (an (blk_below (blk_nw BK268.out) hb) (an (below_step (by exact bel0) hb) (trivial))); clear BK267 BK268 HB; obtain ⟨BK267, BK268, HB, -⟩ := n_; (try clear hb); (try clear hb2); (try clear hk); (try clear hi); refine Stop.out ?_))
  refine Stop.mk ?_
  replace H := H.out
  by_cases c14 : t270 < 0
  ·rw [if_pos c14] at H; have c14b0 : decide (t270 < 0) = true := decide_eq_true c14; clear c14; (try simp only [c14b0])
   obtain rfl := Option.some.inj H
   go_wp2
   go_ret
   exact ⟨by first | rfl | (simp [errW_none, errW_some] <;> rfl) | (simp [*, errW_none, errW_some] <;> rfl), by exact bel0⟩
  ·rw [if_neg c14] at H; have c14b0 : decide (t270 < 0) = false := decide_eq_false c14; clear c14; (try simp only [c14b0]); replace H := Option.bind_eq_some_iff.mp H
   obtain ⟨⟨t271, t272⟩, A150, H⟩ := H
   replace H : ((laws_toTable.f k a1_0 l1_1).bind fun bt275 => ((spec_Merge.f k t271 t272 bt275.1 bt275.2).bind fun bt279 => ((laws_toTable.f k a0_0 l0_1).bind fun bt285 => ((laws_toTable.f k a1_0 l1_1).bind fun bt290 => ((impl_Merge.f k bt285.1 bt285.2 bt290.1 bt290.2).bind fun bt295 => ((laws_eqTable.f k bt295.1 bt295.2.1 bt279.1 bt279.2.1).bind fun t301 => (if t301 = true then (laws_FnExactMerge.j0 k bt279.2.2 bt295.2.2 (bt295.2.2 != bt279.2.2) a0_0 l0_1 a1_0 l1_1 bt279.1 bt279.2.1 bt285.1 bt285.2 bt290.1 bt290.2 bt295.1 bt295.2.1) else (laws_FnExactMerge.j0 k bt279.2.2 bt295.2.2 true a0_0 l0_1 a1_0 l1_1 bt279.1 bt279.2.1 bt285.1 bt285.2 bt290.1 bt290.2 bt295.1 bt295.2.1)))))))) = some r := H
   have A15 := Aside0.mk A150; clear A150; replace H := Option.bind_eq_some_iff.mp H
   obtain ⟨⟨t275, t276⟩, A160, H⟩ := H
   replace H : ((spec_Merge.f k t271 t272 t275 t276).bind fun bt279 => ((laws_toTable.f k a0_0 l0_1).bind fun bt285 => ((laws_toTable.f k a1_0 l1_1).bind fun bt290 => ((impl_Merge.f k bt285.1 bt285.2 bt290.1 bt290.2).bind fun bt295 => ((laws_eqTable.f k bt295.1 bt295.2.1 bt279.1 bt279.2.1).bind fun t301 => (if t301 = true then (laws_FnExactMerge.j0 k bt279.2.2 bt295.2.2 (bt295.2.2 != bt279.2.2) a0_0 l0_1 a1_0 l1_1 bt279.1 bt279.2.1 bt285.1 bt285.2 bt290.1 bt290.2 bt295.1 bt295.2.1) else (laws_FnExactMerge.j0 k bt279.2.2 bt295.2.2 true a0_0 l0_1 a1_0 l1_1 bt279.1 bt279.2.1 bt285.1 bt285.2 bt290.1 bt290.2 bt295.1 bt295.2.1))))))) = some r := H
   have A16 := Aside0.mk A160; clear A160; replace H := Option.bind_eq_some_iff.mp H
   obtain ⟨⟨t279, t280, t283⟩, A170, H⟩ := H
   replace H : ((laws_toTable.f k a0_0 l0_1).bind fun bt285 => ((laws_toTable.f k a1_0 l1_1).bind fun bt290 => ((impl_Merge.f k bt285.1 bt285.2 bt290.1 bt290.2).bind fun bt295 => ((laws_eqTable.f k bt295.1 bt295.2.1 t279 t280).bind fun t301 => (if t301 = true then (laws_FnExactMerge.j0 k t283 bt295.2.2 (bt295.2.2 != t283) a0_0 l0_1 a1_0 l1_1 t279 t280 bt285.1 bt285.2 bt290.1 bt290.2 bt295.1 bt295.2.1) else (laws_FnExactMerge.j0 k t283 bt295.2.2 true a0_0 l0_1 a1_0 l1_1 t279 t280 bt285.1 bt285.2 bt290.1 bt290.2 bt295.1 bt295.2.1)))))) = some r := H
   have A17 := Aside0.mk A170; clear A170; replace H := Option.bind_eq_some_iff.mp H
   obtain ⟨⟨t285, t286⟩, A180, H⟩ := H
   replace H : ((laws_toTable.f k a1_0 l1_1).bind fun bt290 => ((impl_Merge.f k t285 t286 bt290.1 bt290.2).bind fun bt295 => ((laws_eqTable.f k bt295.1 bt295.2.1 t279 t280).bind fun t301 => (if t301 = true then (laws_FnExactMerge.j0 k t283 bt295.2.2 (bt295.2.2 != t283) a0_0 l0_1 a1_0 l1_1 t279 t280 t285 t286 bt290.1 bt290.2 bt295.1 bt295.2.1) else (laws_FnExactMerge.j0 k t283 bt295.2.2 true a0_0 l0_1 a1_0 l1_1 t279 t280 t285 t286 bt290.1 bt290.2 bt295.1 bt295.2.1))))) = some r := H
   have A18 := Aside0.mk A180; clear A180; replace H := Option.bind_eq_some_iff.mp H
   obtain ⟨⟨t290, t291⟩, A190, H⟩ := H
   replace H : ((impl_Merge.f k t285 t286 t290 t291).bind fun bt295 => ((laws_eqTable.f k bt295.1 bt295.2.1 t279 t280).bind fun t301 => (if t301 = true then (laws_FnExactMerge.j0 k t283 bt295.2.2 (bt295.2.2 != t283) a0_0 l0_1 a1_0 l1_1 t279 t280 t285 t286 t290 t291 bt295.1 bt295.2.1) else (laws_FnExactMerge.j0 k t283 bt295.2.2 true a0_0 l0_1 a1_0 l1_1 t279 t280 t285 t286 t290 t291 bt295.1 bt295.2.1)))) = some r := H
   have A19 := Aside0.mk A190; clear A190; replace H := Option.bind_eq_some_iff.mp H
   obtain ⟨⟨t295, t296, t299⟩, A200, H⟩ := H
   replace H : ((laws_eqTable.f k t295 t296 t279 t280).bind fun t301 => (if t301 = true then (laws_FnExactMerge.j0 k t283 t299 (t299 != t283) a0_0 l0_1 a1_0 l1_1 t279 t280 t285 t286 t290 t291 t295 t296) else (laws_FnExactMerge.j0 k t283 t299 true a0_0 l0_1 a1_0 l1_1 t279 t280 t285 t286 t290 t291 t295 t296))) = some r := H
   have A20 := Aside0.mk A200; clear A200; have HC21 := Aside0.mk H; clear H
   try go_wp2
   have n_ := an (blk_drew BK267.out) (an (blk_drew BK268.out) (an (below_drew1 HB.out) (trivial)))
   clear BK267 BK268 HB
   obtain ⟨BK267, BK268, HB, -⟩ := n_
   refine start_ (n := 11) (S := fun w' => w'.cell? ⟨gb267, 0, none⟩ = some (.int .i64 a0_0) ∧ w'.cell? ⟨gb267, 1, none⟩ = some (.slice A0_1 l0_1.length c0_1) ∧ w'.cell? ⟨gb268, 0, none⟩ = some (.int .i64 a1_0) ∧ w'.cell? ⟨gb268, 1, none⟩ = some (.slice A1_1 l1_1.length c1_1)) (ds := []) #[false, false, false, false, false, false, false, false, false, false, false] (by kernel_rfl) rfl rfl ⟨(blk_cell BK267.out 0).trans rfl, (blk_cell BK267.out 1).trans rfl, (blk_cell BK268.out 0).trans rfl, (blk_cell BK268.out 1).trans rfl⟩ (fun hHeld => ?_); refine with_tabW laws_FnExactMerge.tab8 laws_FnExactMerge.bits8 (fun HT_ HW_ => ?_)
   generalize w13.drew = w22 at BK267 BK268 HB hHeld ⊢
   refine take_ (i := 0) (N := some 28) (v := ?_) (a' := ?_) #[true, false, false, false, false, false, false, false, false, false, false] rfl rfl (take_ofW HT_.out HW_.out (by kernel_rfl)) (fun _ _ _ h => h) (Or.inl ⟨by rfl, ?_⟩) hHeld ?_ ?_
   rotate_left
   ·rintro w' ⟨s0, s1, s2, s3⟩
    go_simp
    with_reducible rfl
   rotate_left; · simp only [Act.put, List.setIfInBounds_toArray, List.set_cons_zero, List.set_cons_succ, i64_w, i32_w]; rfl
   refine take_ (i := 2) (N := some 30) (v := ?_) (a' := ?_) #[true, false, true, false, false, false, false, false, false, false, false] rfl rfl (take_ofW HT_.out HW_.out (by kernel_rfl)) (fun _ _ _ h => h) (Or.inl ⟨by rfl, ?_⟩) hHeld ?_ ?_
   rotate_left
   ·rintro w' ⟨s0, s1, s2, s3⟩
    go_simp
    with_reducible rfl
   rotate_left; · simp only [Act.put, List.setIfInBounds_toArray, List.set_cons_zero, List.set_cons_succ, i64_w, i32_w]; rfl
   refine join_ (σ := Value × Value × Value × Nat) 2 #[true, true, true, true, true, true, true, true, true, false, false] (fun s_ => [(29, .agg #[.int .i64 t271, s_.1]), (31, .agg #[.int .i64 t275, s_.2.1]), (32, .tuple #[.agg #[.int .i64 t279, s_.2.2.1], .bool t283]), (6, .pointer (some ⟨s_.2.2.2, 0, none⟩)), (27, .tuple #[.agg #[.int .i64 t279, s_.2.2.1], .bool t283]), (33, .agg #[.int .i64 t279, s_.2.2.1]), (34, .bool t283)]) (fun s_ w' => (w'.cell? ⟨gb267, 0, none⟩ = some (.int .i64 a0_0) ∧ w'.cell? ⟨gb267, 1, none⟩ = some (.slice A0_1 l0_1.length c0_1) ∧ w'.cell? ⟨gb268, 0, none⟩ = some (.int .i64 a1_0) ∧ w'.cell? ⟨gb268, 1, none⟩ = some (.slice A1_1 l1_1.length c1_1)) ∧ (Kd.R k82 82 w' w.heap.size (fun k_ => some k_ ≠ (s_.2.1 : Value).ownBlock ∧ some k_ ≠ (s_.2.2.1 : Value).ownBlock) s_.1 t272) ∧ (Kd.R k82 82 w' w.heap.size (fun k_ => some k_ ≠ (s_.1 : Value).ownBlock ∧ some k_ ≠ (s_.2.2.1 : Value).ownBlock) s_.2.1 t276) ∧ (Kd.R k82 82 w' w.heap.size (fun k_ => some k_ ≠ (s_.1 : Value).ownBlock ∧ some k_ ≠ (s_.2.1 : Value).ownBlock) s_.2.2.1 t280) ∧ (w'.heap[gb267]? = some (.cells #[.int .i64 a0_0, .slice A0_1 l0_1.length c0_1] 37 (0, 0))) ∧ (w'.heap[gb268]? = some (.cells #[.int .i64 a1_0, .slice A1_1 l1_1.length c1_1] 37 (0, 0))) ∧ (w'.heap[s_.2.2.2]? = some (.cells #[.int .i64 0, .slice none 0 0] 41 (0, 0))) ∧ (w.heap.size ≤ s_.2.2.2) ∧ (w.heap.size ≤ s_.2.2.2) ∧ (gb267 ≠ s_.2.2.2) ∧ (s_.2.2.2 ≠ gb267) ∧ (gb268 ≠ s_.2.2.2) ∧ (s_.2.2.2 ≠ gb268) ∧ (Below w.heap.size w w')) ?_ ?_
   rotate_left
   ·intro hCont
    refine two_ (i := 1) (j := 8) (Ni := some 29) (Nj := some 6) #[true, true, true, false, false, false, false, false, false, false, false] #[true, false, true, false, false, false, false, false, true, false, false] rfl rfl rfl rfl (two_of HT_.out (by kernel_rfl)) (by decide) (by decide) (fun K hK => ?_) (fun K hK => ?_)
    ·skip
     refine goes_ Try.func25 (by kernel_rfl) rfl #[.agg #[.int .i64 a0_0, .slice A0_1 l0_1.length c0_1]] (by rfl) rfl rfl (by (try simp only [List.map_toArray, List.map_cons, List.map_nil]); first | done | rfl | (simp only [List.length_drop, List.length_take]; rfl)) ?_
     with_reducible refine (laws_toTable.calls k a0_0 _ _ l0_1 t271 t272 _ ?side1 ?side2 A15.out).mono ?_
     (case side1 => repeat (first | exact (Kd.C_below HR0_1.out HB.out) | (with_reducible refine Kd.C_alloc ?_ _) | (with_reducible refine Kd.C_drewN ?_ _) | (with_reducible refine Kd.C_drew ?_)))
     (case side2 => exact HC0_1.out)
     rintro e w23 ⟨v273, rfl, ho0, hb⟩
     refine ⟨_, rfl, ?_⟩
     have n_ := an (Kd.R_lower ho0 (below_size (by exact bel0))) (an (blk_below (blk_nw BK267.out) hb) (an (blk_below (blk_nw BK268.out) hb) (an (below_step (by exact bel0) hb) (trivial))))
     clear BK267 BK268 HB
     obtain ⟨HO274, BK267, BK268, HB, -⟩ := n_
     (try clear hb); (try clear hb2); (try clear hk); (try clear hi); (try clear ho0)
     refine hK.out _ _ ⟨(blk_cell BK267.out 0).trans rfl, (blk_cell BK267.out 1).trans rfl, (blk_cell BK268.out 0).trans rfl, (blk_cell BK268.out 1).trans rfl⟩ (fun hHeld => ?_)
     clear hK K
     refine norm_ (a' := ?_) ?_ ?_
     rotate_left
     ·show Act.put _ (some 29) _ = _
      simp only [Act.put, List.setIfInBounds_toArray, List.set_cons_zero, List.set_cons_succ, i64_w, i32_w]
      rfl
     refine two_ (i := 3) (j := 8) (Ni := some 31) (Nj := some 6) #[true, true, true, true, false, false, false, false, false, false, false] #[true, true, true, false, false, false, false, false, true, false, false] rfl rfl rfl rfl (two_of HT_.out (by kernel_rfl)) (by decide) (by decide) (fun K hK => ?_) (fun K hK => ?_)
     ·skip
      refine goes_ Try.func25 (by kernel_rfl) rfl #[.agg #[.int .i64 a1_0, .slice A1_1 l1_1.length c1_1]] (by rfl) rfl rfl (by (try simp only [List.map_toArray, List.map_cons, List.map_nil]); first | done | rfl | (simp only [List.length_drop, List.length_take]; rfl)) ?_
      with_reducible refine (laws_toTable.calls k a1_0 _ _ l1_1 t275 t276 _ ?side1 ?side2 A16.out).mono ?_
      (case side1 => repeat (first | exact (Kd.C_below HR1_1.out HB.out) | (with_reducible refine Kd.C_alloc ?_ _) | (with_reducible refine Kd.C_drewN ?_ _) | (with_reducible refine Kd.C_drew ?_)))
      (case side2 => exact HC1_1.out)
      rintro e w24 ⟨v277, rfl, ho0, hb⟩
      refine ⟨_, rfl, ?_⟩
      have n_ := an (Kd.R_elder' (by exact Kd.R_nw HO274.out) (Kd.R_base ho0) hb) (an (Kd.R_lower (Kd.R_new' ho0 (Kd.R_lt (by exact Kd.R_nw HO274.out))) (below_size (by exact bel0))) (an (blk_below (blk_nw BK267.out) hb) (an (blk_below (blk_nw BK268.out) hb) (an (below_step (by exact bel0) hb) (trivial)))))
      clear HO274 BK267 BK268 HB
      obtain ⟨HO274, HO278, BK267, BK268, HB, -⟩ := n_
      (try clear hb); (try clear hb2); (try clear hk); (try clear hi); (try clear ho0)
      obtain ⟨Ao25, co25, eo25⟩ := Kd.R_slice HO274.out
      (first | subst eo25 | (injection eo25 with f1_ f2_ f3_; have f4_ := f1_.symm; have f5_ := f3_.symm; clear f1_ f2_ f3_; subst f4_; subst f5_))
      obtain ⟨Ao26, co26, eo26⟩ := Kd.R_slice HO278.out
      (first | subst eo26 | (injection eo26 with f1_ f2_ f3_; have f4_ := f1_.symm; have f5_ := f3_.symm; clear f1_ f2_ f3_; subst f4_; subst f5_))
      refine hK.out _ _ ⟨(blk_cell BK267.out 0).trans rfl, (blk_cell BK267.out 1).trans rfl, (blk_cell BK268.out 0).trans rfl, (blk_cell BK268.out 1).trans rfl⟩ (fun hHeld => ?_)
      clear hK K
      refine norm_ (a' := ?_) ?_ ?_
      rotate_left
      ·show Act.put _ (some 31) _ = _
       simp only [Act.put, List.setIfInBounds_toArray, List.set_cons_zero, List.set_cons_succ, i64_w, i32_w]
       rfl
      refine two_ (i := 4) (j := 8) (Ni := some 32) (Nj := some 6) #[true, true, true, true, true, false, false, false, false, false, false] #[true, true, true, true, false, false, false, false, true, false, false] rfl rfl rfl rfl (two_of HT_.out (by kernel_rfl)) (by decide) (by decide) (fun K hK => ?_) (fun K hK => ?_)
      ·skip
       refine goes_ Try.func54 (by kernel_rfl) rfl #[.agg #[.int .i64 t271, .slice Ao25 t272.length co25], .agg #[.int .i64 t275, .slice Ao26 t276.length co26]] (by rfl) rfl rfl (by (try simp only [List.map_toArray, List.map_cons, List.map_nil]); first | done | rfl | (simp only [List.length_drop, List.length_take]; rfl)) ?_
       with_reducible refine (spec_Merge.calls k t271 _ _ t272 t275 _ _ t276 t279 t280 t283 _ ?side1 ?side2 ?side3 ?side4 A17.out).mono ?_
       (case side1 => repeat (first | exact (Kd.R_reads' HO274.out).2.2 | (with_reducible refine Kd.C_alloc ?_ _) | (with_reducible refine Kd.C_drewN ?_ _) | (with_reducible refine Kd.C_drew ?_)))
       (case side2 => exact (Kd.R_reads' HO274.out).2.1)
       (case side3 => repeat (first | exact (Kd.R_reads' HO278.out).2.2 | (with_reducible refine Kd.C_alloc ?_ _) | (with_reducible refine Kd.C_drewN ?_ _) | (with_reducible refine Kd.C_drew ?_)))
       (case side4 => exact (Kd.R_reads' HO278.out).2.1)
       rintro e w27 ⟨v281, rfl, ho0, hb⟩
       refine ⟨_, rfl, ?_⟩
       have n_ := an (Kd.R_elder' (by exact Kd.R_nw HO274.out) (Kd.R_base ho0) hb) (an (Kd.R_elder' (by exact Kd.R_nw HO278.out) (Kd.R_base ho0) hb) (an (Kd.R_lower (Kd.R_new' (Kd.R_new' ho0 (Kd.R_lt (by exact Kd.R_nw HO274.out))) (Kd.R_lt (by exact Kd.R_nw HO278.out))) (below_size (by exact bel0))) (an (blk_below (blk_nw BK267.out) hb) (an (blk_below (blk_nw BK268.out) hb) (an (below_step (by exact bel0) hb) (trivial))))))
       clear HO274 HO278 BK267 BK268 HB
       obtain ⟨HO274, HO278, HO282, BK267, BK268, HB, -⟩ := n_
       (try clear hb); (try clear hb2); (try clear hk); (try clear hi); (try clear ho0)
       refine hK.out _ _ ⟨(blk_cell BK267.out 0).trans rfl, (blk_cell BK267.out 1).trans rfl, (blk_cell BK268.out 0).trans rfl, (blk_cell BK268.out 1).trans rfl⟩ (fun hHeld => ?_)
       clear hK K
       refine norm_ (a' := ?_) ?_ ?_
       rotate_left
       ·show Act.put _ (some 32) _ = _
        simp only [Act.put, List.setIfInBounds_toArray, List.set_cons_zero, List.set_cons_succ, i64_w, i32_w]
        rfl
       refine pure_ (i := 5) (N := some 27) (v := ?_) (a' := ?_) #[true, true, true, true, true, true, false, false, false, false, false] rfl rfl (any_of HT_.out (by kernel_rfl)) (fun _ _ _ h => h) (Or.inl ⟨by rfl, ?_⟩) ?_ ?_
       rotate_left; · intro w'; go_simp; with_reducible rfl
       rotate_left; · simp only [Act.put, List.setIfInBounds_toArray, List.set_cons_zero, List.set_cons_succ, i64_w, i32_w]; rfl
       refine pure_ (i := 6) (N := some 33) (v := ?_) (a' := ?_) #[true, true, true, true, true, true, true, false, false, false, false] rfl rfl (any_of HT_.out (by kernel_rfl)) (fun _ _ _ h => h) (Or.inl ⟨by rfl, ?_⟩) ?_ ?_
       rotate_left; · intro w'; go_simp; with_reducible rfl
       rotate_left; · simp only [Act.put, List.setIfInBounds_toArray, List.set_cons_zero, List.set_cons_succ, i64_w, i32_w]; rfl
       refine pure_ (i := 7) (N := some 34) (v := ?_) (a' := ?_) #[true, true, true, true, true, true, true, true, false, false, false] rfl rfl (any_of HT_.out (by kernel_rfl)) (fun _ _ _ h => h) (Or.inl ⟨by rfl, ?_⟩) ?_ ?_
       rotate_left; · intro w'; go_simp; with_reducible rfl
       rotate_left; · simp only [Act.put, List.setIfInBounds_toArray, List.set_cons_zero, List.set_cons_succ, i64_w, i32_w]; rfl
       refine one_ (i := 8) (N := some 6) #[true, true, true, true, true, true, true, true, true, false, false] rfl rfl (one_of HT_.out (by kernel_rfl)) (by decide) (fun K hK => ?_)
       refine box_step ?hg (N := 6) ?hd (cs := #[.int .i64 0, .slice none 0 0]) (t := 41) ?hr ?_; (case hd => rfl); (case hg => rfl); (case hr => first | (go_simp; done) | (go_simp; rfl))
       intro gb284 hg w28 hbox hb
       have n_ := an (Kd.R_below (by exact Kd.R_nw HO274.out) hb) (an (Kd.R_below (by exact Kd.R_nw HO278.out) hb) (an (Kd.R_below (by exact Kd.R_nw HO282.out) hb) (an (blk_below (blk_nw BK267.out) hb) (an (blk_below (blk_nw BK268.out) hb) (an (below_step (by exact bel0) hb) (an (hbox) (an ((by rw [hg]; exact (below_size (by exact bel0)) : w.heap.size ≤ gb284)) (an ((by rw [hg]; exact (below_size (by exact bel0)) : w.heap.size ≤ gb284)) (an ((by rw [hg]; exact Nat.ne_of_lt (blk_lt (blk_nw BK267.out)) : gb267 ≠ gb284)) (an ((by rw [hg]; exact Nat.ne_of_gt (blk_lt (blk_nw BK267.out)) : gb284 ≠ gb267)) (an ((by rw [hg]; exact Nat.ne_of_lt (blk_lt (blk_nw BK268.out)) : gb268 ≠ gb284)) (an ((by rw [hg]; exact Nat.ne_of_gt (blk_lt (blk_nw BK268.out)) : gb284 ≠ gb268)) (trivial)))))))))))))
       clear HO274 HO278 HO282 BK267 BK268 HB
       obtain ⟨HO274, HO278, HO282, BK267, BK268, HB, BK284, GW284, GE284, NB267_284, NB284_267, NB268_284, NB284_268, -⟩ := n_
       clear hb hbox hg
       refine hK.out _ _ ⟨(blk_cell BK267.out 0).trans rfl, (blk_cell BK267.out 1).trans rfl, (blk_cell BK268.out 0).trans rfl, (blk_cell BK268.out 1).trans rfl⟩ (fun hHeld => ?_)
       clear hK K
       refine norm_ (a' := ?_) ?_ ?_
       rotate_left
       ·show Act.put _ (some 6) _ = _
        simp only [Act.put, List.setIfInBounds_toArray, List.set_cons_zero, List.set_cons_succ, i64_w, i32_w]
        rfl
       exact norm_ (by simp only [putAll, Act.put, List.setIfInBounds_toArray, List.set_cons_zero, List.set_cons_succ]) (hCont (.slice Ao25 t272.length co25, .slice Ao26 t276.length co26, v281, gb284) _ ⟨hHeld, (by exact Kd.R_nw (Kd.R_mono HO274.out (fun _ hk => ⟨hk.1.2, hk.2⟩))), (by exact Kd.R_nw (Kd.R_mono HO278.out (fun _ hk => ⟨hk.1.2, hk.2⟩))), (by exact Kd.R_nw (Kd.R_mono HO282.out (fun _ hk => ⟨hk.1.2, hk.2⟩))), (by exact blk_nw BK267.out), (by exact blk_nw BK268.out), (by exact blk_nw BK284.out), GW284.out, GE284.out, NB267_284.out, NB284_267.out, NB268_284.out, NB284_268.out, (by exact bel0)⟩)
      ·skip
       refine box_step ?hg (N := 6) ?hd (cs := #[.int .i64 0, .slice none 0 0]) (t := 41) ?hr ?_; (case hd => rfl); (case hg => rfl); (case hr => first | (go_simp; done) | (go_simp; rfl))
       intro gb284 hg w25 hbox hb
       have n_ := an (Kd.R_below (by exact Kd.R_nw HO274.out) hb) (an (Kd.R_below (by exact Kd.R_nw HO278.out) hb) (an (blk_below (blk_nw BK267.out) hb) (an (blk_below (blk_nw BK268.out) hb) (an (below_step (by exact bel0) hb) (an (hbox) (an ((by rw [hg]; exact (below_size (by exact bel0)) : w.heap.size ≤ gb284)) (an ((by rw [hg]; exact (below_size (by exact bel0)) : w.heap.size ≤ gb284)) (an ((by rw [hg]; exact Nat.ne_of_lt (blk_lt (blk_nw BK267.out)) : gb267 ≠ gb284)) (an ((by rw [hg]; exact Nat.ne_of_gt (blk_lt (blk_nw BK267.out)) : gb284 ≠ gb267)) (an ((by rw [hg]; exact Nat.ne_of_lt (blk_lt (blk_nw BK268.out)) : gb268 ≠ gb284)) (an ((by rw [hg]; exact Nat.ne_of_gt (blk_lt (blk_nw BK268.out)) : gb284 ≠ gb268)) (trivial))))))))))))
       clear HO274 HO278 BK267 BK268 HB
       obtain ⟨HO274, HO278, BK267, BK268, HB, BK284, GW284, GE284, NB267_284, NB284_267, NB268_284, NB284_268, -⟩ := n_
       clear hb hbox hg
       obtain ⟨Ao26, co26, eo26⟩ := Kd.R_slice HO274.out
       (first | subst eo26 | (injection eo26 with f1_ f2_ f3_; have f4_ := f1_.symm; have f5_ := f3_.symm; clear f1_ f2_ f3_; subst f4_; subst f5_))
       obtain ⟨Ao27, co27, eo27⟩ := Kd.R_slice HO278.out
       (first | subst eo27 | (injection eo27 with f1_ f2_ f3_; have f4_ := f1_.symm; have f5_ := f3_.symm; clear f1_ f2_ f3_; subst f4_; subst f5_))
       refine hK.out _ _ ⟨(blk_cell BK267.out 0).trans rfl, (blk_cell BK267.out 1).trans rfl, (blk_cell BK268.out 0).trans rfl, (blk_cell BK268.out 1).trans rfl⟩ (fun hHeld => ?_)
       clear hK K
       refine norm_ (a' := ?_) ?_ ?_
       rotate_left
       ·show Act.put _ (some 6) _ = _
        simp only [Act.put, List.setIfInBounds_toArray, List.set_cons_zero, List.set_cons_succ, i64_w, i32_w]
        rfl
       refine one_ (i := 4) (N := some 32) #[true, true, true, true, true, false, false, false, true, false, false] rfl rfl (one_of HT_.out (by kernel_rfl)) (by decide) (fun K hK => ?_)
       refine goes_ Try.func54 (by kernel_rfl) rfl #[.agg #[.int .i64 t271, .slice Ao26 t272.length co26], .agg #[.int .i64 t275, .slice Ao27 t276.length co27]] (by rfl) rfl rfl (by (try simp only [List.map_toArray, List.map_cons, List.map_nil]); first | done | rfl | (simp only [List.length_drop, List.length_take]; rfl)) ?_
       with_reducible refine (spec_Merge.calls k t271 _ _ t272 t275 _ _ t276 t279 t280 t283 _ ?side1 ?side2 ?side3 ?side4 A17.out).mono ?_
       (case side1 => repeat (first | exact (Kd.R_reads' HO274.out).2.2 | (with_reducible refine Kd.C_alloc ?_ _) | (with_reducible refine Kd.C_drewN ?_ _) | (with_reducible refine Kd.C_drew ?_)))
       (case side2 => exact (Kd.R_reads' HO274.out).2.1)
       (case side3 => repeat (first | exact (Kd.R_reads' HO278.out).2.2 | (with_reducible refine Kd.C_alloc ?_ _) | (with_reducible refine Kd.C_drewN ?_ _) | (with_reducible refine Kd.C_drew ?_)))
       (case side4 => exact (Kd.R_reads' HO278.out).2.1)
       rintro e w28 ⟨v281, rfl, ho0, hb⟩
       refine ⟨_, rfl, ?_⟩
       have n_ := an (Kd.R_elder' (by exact Kd.R_nw HO274.out) (Kd.R_base ho0) hb) (an (Kd.R_elder' (by exact Kd.R_nw HO278.out) (Kd.R_base ho0) hb) (an (Kd.R_lower (Kd.R_new' (Kd.R_new' ho0 (Kd.R_lt (by exact Kd.R_nw HO274.out))) (Kd.R_lt (by exact Kd.R_nw HO278.out))) (below_size (by exact bel0))) (an (blk_below (blk_nw BK267.out) hb) (an (blk_below (blk_nw BK268.out) hb) (an (blk_below (blk_nw BK284.out) hb) (an (below_step (by exact bel0) hb) (trivial)))))))
       clear HO274 HO278 BK267 BK268 BK284 HB
       obtain ⟨HO274, HO278, HO282, BK267, BK268, BK284, HB, -⟩ := n_
       (try clear hb); (try clear hb2); (try clear hk); (try clear hi); (try clear ho0)
       refine hK.out _ _ ⟨(blk_cell BK267.out 0).trans rfl, (blk_cell BK267.out 1).trans rfl, (blk_cell BK268.out 0).trans rfl, (blk_cell BK268.out 1).trans rfl⟩ (fun hHeld => ?_)
       clear hK K
       refine norm_ (a' := ?_) ?_ ?_
       rotate_left
       ·show Act.put _ (some 32) _ = _
        simp only [Act.put, List.setIfInBounds_toArray, List.set_cons_zero, List.set_cons_succ, i64_w, i32_w]
        rfl
       refine pure_ (i := 5) (N := some 27) (v := ?_) (a' := ?_) #[true, true, true, true, true, true, false, false, true, false, false] rfl rfl (any_of HT_.out (by kernel_rfl)) (fun _ _ _ h => h) (Or.inl ⟨by rfl, ?_⟩) ?_ ?_
       rotate_left; · intro w'; go_simp; with_reducible rfl
       rotate_left; · simp only [Act.put, List.setIfInBounds_toArray, List.set_cons_zero, List.set_cons_succ, i64_w, i32_w]; rfl
       refine pure_ (i := 6) (N := some 33) (v := ?_) (a' := ?_) #[true, true, true, true, true, true, true, false, true, false, false] rfl rfl (any_of HT_.out (by kernel_rfl)) (fun _ _ _ h => h) (Or.inl ⟨by rfl, ?_⟩) ?_ ?_
       rotate_left; · intro w'; go_simp; with_reducible rfl
       rotate_left; · simp only [Act.put, List.setIfInBounds_toArray, List.set_cons_zero, List.set_cons_succ, i64_w, i32_w]; rfl
       refine pure_ (i := 7) (N := some 34) (v := ?_) (a' := ?_) #[true, true, true, true, true, true, true, true, true, false, false] rfl rfl (any_of HT_.out (by kernel_rfl)) (fun _ _ _ h => h) (Or.inl ⟨by rfl, ?_⟩) ?_ ?_
       rotate_left; · intro w'; go_simp; with_reducible rfl
       rotate_left; · simp only [Act.put, List.setIfInBounds_toArray, List.set_cons_zero, List.set_cons_succ, i64_w, i32_w]; rfl
       exact norm_ (by simp only [putAll, Act.put, List.setIfInBounds_toArray, List.set_cons_zero, List.set_cons_succ]) (hCont (.slice Ao26 t272.length co26, .slice Ao27 t276.length co27, v281, gb284) _ ⟨hHeld, (by exact Kd.R_nw (Kd.R_mono HO274.out (fun _ hk => ⟨hk.1.2, hk.2⟩))), (by exact Kd.R_nw (Kd.R_mono HO278.out (fun _ hk => ⟨hk.1.2, hk.2⟩))), (by exact Kd.R_nw (Kd.R_mono HO282.out (fun _ hk => ⟨hk.1.2, hk.2⟩))), (by exact blk_nw BK267.out), (by exact blk_nw BK268.out), (by exact blk_nw BK284.out), GW284.out, GE284.out, NB267_284.out, NB284_267.out, NB268_284.out, NB284_268.out, (by exact bel0)⟩)
     ·skip
      refine box_step ?hg (N := 6) ?hd (cs := #[.int .i64 0, .slice none 0 0]) (t := 41) ?hr ?_; (case hd => rfl); (case hg => rfl); (case hr => first | (go_simp; done) | (go_simp; rfl))
      intro gb284 hg w24 hbox hb
      have n_ := an (Kd.R_below (by exact Kd.R_nw HO274.out) hb) (an (blk_below (blk_nw BK267.out) hb) (an (blk_below (blk_nw BK268.out) hb) (an (below_step (by exact bel0) hb) (an (hbox) (an ((by rw [hg]; exact (below_size (by exact bel0)) : w.heap.size ≤ gb284)) (an ((by rw [hg]; exact (below_size (by exact bel0)) : w.heap.size ≤ gb284)) (an ((by rw [hg]; exact Nat.ne_of_lt (blk_lt (blk_nw BK267.out)) : gb267 ≠ gb284)) (an ((by rw [hg]; exact Nat.ne_of_gt (blk_lt (blk_nw BK267.out)) : gb284 ≠ gb267)) (an ((by rw [hg]; exact Nat.ne_of_lt (blk_lt (blk_nw BK268.out)) : gb268 ≠ gb284)) (an ((by rw [hg]; exact Nat.ne_of_gt (blk_lt (blk_nw BK268.out)) : gb284 ≠ gb268)) (trivial)))))))))))
      clear HO274 BK267 BK268 HB
      obtain ⟨HO274, BK267, BK268, HB, BK284, GW284, GE284, NB267_284, NB284_267, NB268_284, NB284_268, -⟩ := n_
      clear hb hbox hg
      refine hK.out _ _ ⟨(blk_cell BK267.out 0).trans rfl, (blk_cell BK267.out 1).trans rfl, (blk_cell BK268.out 0).trans rfl, (blk_cell BK268.out 1).trans rfl⟩ (fun hHeld => ?_)
      clear hK K
      refine norm_ (a' := ?_) ?_ ?_
      rotate_left
      ·show Act.put _ (some 6) _ = _
       simp only [Act.put, List.setIfInBounds_toArray, List.set_cons_zero, List.set_cons_succ, i64_w, i32_w]
       rfl
      refine one_ (i := 3) (N := some 31) #[true, true, true, true, false, false, false, false, true, false, false] rfl rfl (one_of HT_.out (by kernel_rfl)) (by decide) (fun K hK => ?_)
      refine goes_ Try.func25 (by kernel_rfl) rfl #[.agg #[.int .i64 a1_0, .slice A1_1 l1_1.length c1_1]] (by rfl) rfl rfl (by (try simp only [List.map_toArray, List.map_cons, List.map_nil]); first | done | rfl | (simp only [List.length_drop, List.length_take]; rfl)) ?_
      with_reducible refine (laws_toTable.calls k a1_0 _ _ l1_1 t275 t276 _ ?side1 ?side2 A16.out).mono ?_
      (case side1 => repeat (first | exact (Kd.C_below HR1_1.out HB.out) | (with_reducible refine Kd.C_alloc ?_ _) | (with_reducible refine Kd.C_drewN ?_ _) | (with_reducible refine Kd.C_drew ?_)))
      (case side2 => exact HC1_1.out)
      rintro e w25 ⟨v277, rfl, ho0, hb⟩
      refine ⟨_, rfl, ?_⟩
      have n_ := an (Kd.R_elder' (by exact Kd.R_nw HO274.out) (Kd.R_base ho0) hb) (an (Kd.R_lower (Kd.R_new' ho0 (Kd.R_lt (by exact Kd.R_nw HO274.out))) (below_size (by exact bel0))) (an (blk_below (blk_nw BK267.out) hb) (an (blk_below (blk_nw BK268.out) hb) (an (blk_below (blk_nw BK284.out) hb) (an (below_step (by exact bel0) hb) (trivial))))))
      clear HO274 BK267 BK268 BK284 HB
      obtain ⟨HO274, HO278, BK267, BK268, BK284, HB, -⟩ := n_
      (try clear hb); (try clear hb2); (try clear hk); (try clear hi); (try clear ho0)
      obtain ⟨Ao26, co26, eo26⟩ := Kd.R_slice HO274.out
      (first | subst eo26 | (injection eo26 with f1_ f2_ f3_; have f4_ := f1_.symm; have f5_ := f3_.symm; clear f1_ f2_ f3_; subst f4_; subst f5_))
      obtain ⟨Ao27, co27, eo27⟩ := Kd.R_slice HO278.out
      (first | subst eo27 | (injection eo27 with f1_ f2_ f3_; have f4_ := f1_.symm; have f5_ := f3_.symm; clear f1_ f2_ f3_; subst f4_; subst f5_))
      refine hK.out _ _ ⟨(blk_cell BK267.out 0).trans rfl, (blk_cell BK267.out 1).trans rfl, (blk_cell BK268.out 0).trans rfl, (blk_cell BK268.out 1).trans rfl⟩ (fun hHeld => ?_)
      clear hK K
      refine norm_ (a' := ?_) ?_ ?_
      rotate_left
      ·show Act.put _ (some 31) _ = _
       simp only [Act.put, List.setIfInBounds_toArray, List.set_cons_zero, List.set_cons_succ, i64_w, i32_w]
       rfl
      refine one_ (i := 4) (N := some 32) #[true, true, true, true, true, false, false, false, true, false, false] rfl rfl (one_of HT_.out (by kernel_rfl)) (by decide) (fun K hK => ?_)
      refine goes_ Try.func54 (by kernel_rfl) rfl #[.agg #[.int .i64 t271, .slice Ao26 t272.length co26], .agg #[.int .i64 t275, .slice Ao27 t276.length co27]] (by rfl) rfl rfl (by (try simp only [List.map_toArray, List.map_cons, List.map_nil]); first | done | rfl | (simp only [List.length_drop, List.length_take]; rfl)) ?_
      with_reducible refine (spec_Merge.calls k t271 _ _ t272 t275 _ _ t276 t279 t280 t283 _ ?side1 ?side2 ?side3 ?side4 A17.out).mono ?_
      (case side1 => repeat (first | exact (Kd.R_reads' HO274.out).2.2 | (with_reducible refine Kd.C_alloc ?_ _) | (with_reducible refine Kd.C_drewN ?_ _) | (with_reducible refine Kd.C_drew ?_)))
      (case side2 => exact (Kd.R_reads' HO274.out).2.1)
      (case side3 => repeat (first | exact (Kd.R_reads' HO278.out).2.2 | (with_reducible refine Kd.C_alloc ?_ _) | (with_reducible refine Kd.C_drewN ?_ _) | (with_reducible refine Kd.C_drew ?_)))
      (case side4 => exact (Kd.R_reads' HO278.out).2.1)
      rintro e w28 ⟨v281, rfl, ho0, hb⟩
      refine ⟨_, rfl, ?_⟩
      have n_ := an (Kd.R_elder' (by exact Kd.R_nw HO274.out) (Kd.R_base ho0) hb) (an (Kd.R_elder' (by exact Kd.R_nw HO278.out) (Kd.R_base ho0) hb) (an (Kd.R_lower (Kd.R_new' (Kd.R_new' ho0 (Kd.R_lt (by exact Kd.R_nw HO274.out))) (Kd.R_lt (by exact Kd.R_nw HO278.out))) (below_size (by exact bel0))) (an (blk_below (blk_nw BK267.out) hb) (an (blk_below (blk_nw BK268.out) hb) (an (blk_below (blk_nw BK284.out) hb) (an (below_step (by exact bel0) hb) (trivial)))))))
      clear HO274 HO278 BK267 BK268 BK284 HB
      obtain ⟨HO274, HO278, HO282, BK267, BK268, BK284, HB, -⟩ := n_
      (try clear hb); (try clear hb2); (try clear hk); (try clear hi); (try clear ho0)
      refine hK.out _ _ ⟨(blk_cell BK267.out 0).trans rfl, (blk_cell BK267.out 1).trans rfl, (blk_cell BK268.out 0).trans rfl, (blk_cell BK268.out 1).trans rfl⟩ (fun hHeld => ?_)
      clear hK K
      refine norm_ (a' := ?_) ?_ ?_
      rotate_left
      ·show Act.put _ (some 32) _ = _
       simp only [Act.put, List.setIfInBounds_toArray, List.set_cons_zero, List.set_cons_succ, i64_w, i32_w]
       rfl
      refine pure_ (i := 5) (N := some 27) (v := ?_) (a' := ?_) #[true, true, true, true, true, true, false, false, true, false, false] rfl rfl (any_of HT_.out (by kernel_rfl)) (fun _ _ _ h => h) (Or.inl ⟨by rfl, ?_⟩) ?_ ?_
      rotate_left; · intro w'; go_simp; with_reducible rfl
      rotate_left; · simp only [Act.put, List.setIfInBounds_toArray, List.set_cons_zero, List.set_cons_succ, i64_w, i32_w]; rfl
      refine pure_ (i := 6) (N := some 33) (v := ?_) (a' := ?_) #[true, true, true, true, true, true, true, false, true, false, false] rfl rfl (any_of HT_.out (by kernel_rfl)) (fun _ _ _ h => h) (Or.inl ⟨by rfl, ?_⟩) ?_ ?_
      rotate_left; · intro w'; go_simp; with_reducible rfl
      rotate_left; · simp only [Act.put, List.setIfInBounds_toArray, List.set_cons_zero, List.set_cons_succ, i64_w, i32_w]; rfl
      refine pure_ (i := 7) (N := some 34) (v := ?_) (a' := ?_) #[true, true, true, true, true, true, true, true, true, false, false] rfl rfl (any_of HT_.out (by kernel_rfl)) (fun _ _ _ h => h) (Or.inl ⟨by rfl, ?_⟩) ?_ ?_
      rotate_left; · intro w'; go_simp; with_reducible rfl
      rotate_left; · simp only [Act.put, List.setIfInBounds_toArray, List.set_cons_zero, List.set_cons_succ, i64_w, i32_w]; rfl
      exact norm_ (by simp only [putAll, Act.put, List.setIfInBounds_toArray, List.set_cons_zero, List.set_cons_succ]) (hCont (.slice Ao26 t272.length co26, .slice Ao27 t276.length co27, v281, gb284) _ ⟨hHeld, (by exact Kd.R_nw (Kd.R_mono HO274.out (fun _ hk => ⟨hk.1.2, hk.2⟩))), (by exact Kd.R_nw (Kd.R_mono HO278.out (fun _ hk => ⟨hk.1.2, hk.2⟩))), (by exact Kd.R_nw (Kd.R_mono HO282.out (fun _ hk => ⟨hk.1.2, hk.2⟩))), (by exact blk_nw BK267.out), (by exact blk_nw BK268.out), (by exact blk_nw BK284.out), GW284.out, GE284.out, NB267_284.out, NB284_267.out, NB268_284.out, NB284_268.out, (by exact bel0)⟩)
    ·skip
     refine box_step ?hg (N := 6) ?hd (cs := #[.int .i64 0, .slice none 0 0]) (t := 41) ?hr ?_; (case hd => rfl); (case hg => rfl); (case hr => first | (go_simp; done) | (go_simp; rfl))
     intro gb284 hg w23 hbox hb
     have n_ := an (blk_below (blk_nw BK267.out) hb) (an (blk_below (blk_nw BK268.out) hb) (an (below_step (by exact bel0) hb) (an (hbox) (an ((by rw [hg]; exact (below_size (by exact bel0)) : w.heap.size ≤ gb284)) (an ((by rw [hg]; exact (below_size (by exact bel0)) : w.heap.size ≤ gb284)) (an ((by rw [hg]; exact Nat.ne_of_lt (blk_lt (blk_nw BK267.out)) : gb267 ≠ gb284)) (an ((by rw [hg]; exact Nat.ne_of_gt (blk_lt (blk_nw BK267.out)) : gb284 ≠ gb267)) (an ((by rw [hg]; exact Nat.ne_of_lt (blk_lt (blk_nw BK268.out)) : gb268 ≠ gb284)) (an ((by rw [hg]; exact Nat.ne_of_gt (blk_lt (blk_nw BK268.out)) : gb284 ≠ gb268)) (trivial))))))))))
     clear BK267 BK268 HB
     obtain ⟨BK267, BK268, HB, BK284, GW284, GE284, NB267_284, NB284_267, NB268_284, NB284_268, -⟩ := n_
     clear hb hbox hg
     refine hK.out _ _ ⟨(blk_cell BK267.out 0).trans rfl, (blk_cell BK267.out 1).trans rfl, (blk_cell BK268.out 0).trans rfl, (blk_cell BK268.out 1).trans rfl⟩ (fun hHeld => ?_)
     clear hK K
     refine norm_ (a' := ?_) ?_ ?_
     rotate_left
     ·show Act.put _ (some 6) _ = _
      simp only [Act.put, List.setIfInBounds_toArray, List.set_cons_zero, List.set_cons_succ, i64_w, i32_w]
      rfl
     refine one_ (i := 1) (N := some 29) #[true, true, true, false, false, false, false, false, true, false, false] rfl rfl (one_of HT_.out (by kernel_rfl)) (by decide) (fun K hK => ?_)
     refine goes_ Try.func25 (by kernel_rfl) rfl #[.agg #[.int .i64 a0_0, .slice A0_1 l0_1.length c0_1]] (by rfl) rfl rfl (by (try simp only [List.map_toArray, List.map_cons, List.map_nil]); first | done | rfl | (simp only [List.length_drop, List.length_take]; rfl)) ?_
     with_reducible refine (laws_toTable.calls k a0_0 _ _ l0_1 t271 t272 _ ?side1 ?side2 A15.out).mono ?_
     (case side1 => repeat (first | exact (Kd.C_below HR0_1.out HB.out) | (with_reducible refine Kd.C_alloc ?_ _) | (with_reducible refine Kd.C_drewN ?_ _) | (with_reducible refine Kd.C_drew ?_)))
     (case side2 => exact HC0_1.out)
     rintro e w24 ⟨v273, rfl, ho0, hb⟩
     refine ⟨_, rfl, ?_⟩
     have n_ := an (Kd.R_lower ho0 (below_size (by exact bel0))) (an (blk_below (blk_nw BK267.out) hb) (an (blk_below (blk_nw BK268.out) hb) (an (blk_below (blk_nw BK284.out) hb) (an (below_step (by exact bel0) hb) (trivial)))))
     clear BK267 BK268 BK284 HB
     obtain ⟨HO274, BK267, BK268, BK284, HB, -⟩ := n_
     (try clear hb); (try clear hb2); (try clear hk); (try clear hi); (try clear ho0)
     refine hK.out _ _ ⟨(blk_cell BK267.out 0).trans rfl, (blk_cell BK267.out 1).trans rfl, (blk_cell BK268.out 0).trans rfl, (blk_cell BK268.out 1).trans rfl⟩ (fun hHeld => ?_)
     clear hK K
     refine norm_ (a' := ?_) ?_ ?_
     rotate_left
     ·show Act.put _ (some 29) _ = _
      simp only [Act.put, List.setIfInBounds_toArray, List.set_cons_zero, List.set_cons_succ, i64_w, i32_w]
      rfl
     refine one_ (i := 3) (N := some 31) #[true, true, true, true, false, false, false, false, true, false, false] rfl rfl (one_of HT_.out (by kernel_rfl)) (by decide) (fun K hK => ?_)
     refine goes_ Try.func25 (by kernel_rfl) rfl #[.agg #[.int .i64 a1_0, .slice A1_1 l1_1.length c1_1]] (by rfl) rfl rfl (by (try simp only [List.map_toArray, List.map_cons, List.map_nil]); first | done | rfl | (simp only [List.length_drop, List.length_take]; rfl)) ?_
     with_reducible refine (laws_toTable.calls k a1_0 _ _ l1_1 t275 t276 _ ?side1 ?side2 A16.out).mono ?_
     (case side1 => repeat (first | exact (Kd.C_below HR1_1.out HB.out) | (with_reducible refine Kd.C_alloc ?_ _) | (with_reducible refine Kd.C_drewN ?_ _) | (with_reducible refine Kd.C_drew ?_)))
     (case side2 => exact HC1_1.out)
     rintro e w25 ⟨v277, rfl, ho0, hb⟩
     refine ⟨_, rfl, ?_⟩
     have n_ := an (Kd.R_elder' (by exact Kd.R_nw HO274.out) (Kd.R_base ho0) hb) (an (Kd.R_lower (Kd.R_new' ho0 (Kd.R_lt (by exact Kd.R_nw HO274.out))) (below_size (by exact bel0))) (an (blk_below (blk_nw BK267.out) hb) (an (blk_below (blk_nw BK268.out) hb) (an (blk_below (blk_nw BK284.out) hb) (an (below_step (by exact bel0) hb) (trivial))))))
     clear HO274 BK267 BK268 BK284 HB
     obtain ⟨HO274, HO278, BK267, BK268, BK284, HB, -⟩ := n_
     (try clear hb); (try clear hb2); (try clear hk); (try clear hi); (try clear ho0)
     obtain ⟨Ao26, co26, eo26⟩ := Kd.R_slice HO274.out
     (first | subst eo26 | (injection eo26 with f1_ f2_ f3_; have f4_ := f1_.symm; have f5_ := f3_.symm; clear f1_ f2_ f3_; subst f4_; subst f5_))
     obtain ⟨Ao27, co27, eo27⟩ := Kd.R_slice HO278.out
     (first | subst eo27 | (injection eo27 with f1_ f2_ f3_; have f4_ := f1_.symm; have f5_ := f3_.symm; clear f1_ f2_ f3_; subst f4_; subst f5_))
     refine hK.out _ _ ⟨(blk_cell BK267.out 0).trans rfl, (blk_cell BK267.out 1).trans rfl, (blk_cell BK268.out 0).trans rfl, (blk_cell BK268.out 1).trans rfl⟩ (fun hHeld => ?_)
     clear hK K
     refine norm_ (a' := ?_) ?_ ?_
     rotate_left
     ·show Act.put _ (some 31) _ = _
      simp only [Act.put, List.setIfInBounds_toArray, List.set_cons_zero, List.set_cons_succ, i64_w, i32_w]
      rfl
     refine one_ (i := 4) (N := some 32) #[true, true, true, true, true, false, false, false, true, false, false] rfl rfl (one_of HT_.out (by kernel_rfl)) (by decide) (fun K hK => ?_)
     refine goes_ Try.func54 (by kernel_rfl) rfl #[.agg #[.int .i64 t271, .slice Ao26 t272.length co26], .agg #[.int .i64 t275, .slice Ao27 t276.length co27]] (by rfl) rfl rfl (by (try simp only [List.map_toArray, List.map_cons, List.map_nil]); first | done | rfl | (simp only [List.length_drop, List.length_take]; rfl)) ?_
     with_reducible refine (spec_Merge.calls k t271 _ _ t272 t275 _ _ t276 t279 t280 t283 _ ?side1 ?side2 ?side3 ?side4 A17.out).mono ?_
     (case side1 => repeat (first | exact (Kd.R_reads' HO274.out).2.2 | (with_reducible refine Kd.C_alloc ?_ _) | (with_reducible refine Kd.C_drewN ?_ _) | (with_reducible refine Kd.C_drew ?_)))
     (case side2 => exact (Kd.R_reads' HO274.out).2.1)
     (case side3 => repeat (first | exact (Kd.R_reads' HO278.out).2.2 | (with_reducible refine Kd.C_alloc ?_ _) | (with_reducible refine Kd.C_drewN ?_ _) | (with_reducible refine Kd.C_drew ?_)))
     (case side4 => exact (Kd.R_reads' HO278.out).2.1)
     rintro e w28 ⟨v281, rfl, ho0, hb⟩
     refine ⟨_, rfl, ?_⟩
     have n_ := an (Kd.R_elder' (by exact Kd.R_nw HO274.out) (Kd.R_base ho0) hb) (an (Kd.R_elder' (by exact Kd.R_nw HO278.out) (Kd.R_base ho0) hb) (an (Kd.R_lower (Kd.R_new' (Kd.R_new' ho0 (Kd.R_lt (by exact Kd.R_nw HO274.out))) (Kd.R_lt (by exact Kd.R_nw HO278.out))) (below_size (by exact bel0))) (an (blk_below (blk_nw BK267.out) hb) (an (blk_below (blk_nw BK268.out) hb) (an (blk_below (blk_nw BK284.out) hb) (an (below_step (by exact bel0) hb) (trivial)))))))
     clear HO274 HO278 BK267 BK268 BK284 HB
     obtain ⟨HO274, HO278, HO282, BK267, BK268, BK284, HB, -⟩ := n_
     (try clear hb); (try clear hb2); (try clear hk); (try clear hi); (try clear ho0)
     refine hK.out _ _ ⟨(blk_cell BK267.out 0).trans rfl, (blk_cell BK267.out 1).trans rfl, (blk_cell BK268.out 0).trans rfl, (blk_cell BK268.out 1).trans rfl⟩ (fun hHeld => ?_)
     clear hK K
     refine norm_ (a' := ?_) ?_ ?_
     rotate_left
     ·show Act.put _ (some 32) _ = _
      simp only [Act.put, List.setIfInBounds_toArray, List.set_cons_zero, List.set_cons_succ, i64_w, i32_w]
      rfl
     refine pure_ (i := 5) (N := some 27) (v := ?_) (a' := ?_) #[true, true, true, true, true, true, false, false, true, false, false] rfl rfl (any_of HT_.out (by kernel_rfl)) (fun _ _ _ h => h) (Or.inl ⟨by rfl, ?_⟩) ?_ ?_
     rotate_left; · intro w'; go_simp; with_reducible rfl
     rotate_left; · simp only [Act.put, List.setIfInBounds_toArray, List.set_cons_zero, List.set_cons_succ, i64_w, i32_w]; rfl
     refine pure_ (i := 6) (N := some 33) (v := ?_) (a' := ?_) #[true, true, true, true, true, true, true, false, true, false, false] rfl rfl (any_of HT_.out (by kernel_rfl)) (fun _ _ _ h => h) (Or.inl ⟨by rfl, ?_⟩) ?_ ?_
     rotate_left; · intro w'; go_simp; with_reducible rfl
     rotate_left; · simp only [Act.put, List.setIfInBounds_toArray, List.set_cons_zero, List.set_cons_succ, i64_w, i32_w]; rfl
     refine pure_ (i := 7) (N := some 34) (v := ?_) (a' := ?_) #[true, true, true, true, true, true, true, true, true, false, false] rfl rfl (any_of HT_.out (by kernel_rfl)) (fun _ _ _ h => h) (Or.inl ⟨by rfl, ?_⟩) ?_ ?_
     rotate_left; · intro w'; go_simp; with_reducible rfl
     rotate_left; · simp only [Act.put, List.setIfInBounds_toArray, List.set_cons_zero, List.set_cons_succ, i64_w, i32_w]; rfl
     exact norm_ (by simp only [putAll, Act.put, List.setIfInBounds_toArray, List.set_cons_zero, List.set_cons_succ]) (hCont (.slice Ao26 t272.length co26, .slice Ao27 t276.length co27, v281, gb284) _ ⟨hHeld, (by exact Kd.R_nw (Kd.R_mono HO274.out (fun _ hk => ⟨hk.1.2, hk.2⟩))), (by exact Kd.R_nw (Kd.R_mono HO278.out (fun _ hk => ⟨hk.1.2, hk.2⟩))), (by exact Kd.R_nw (Kd.R_mono HO282.out (fun _ hk => ⟨hk.1.2, hk.2⟩))), (by exact blk_nw BK267.out), (by exact blk_nw BK268.out), (by exact blk_nw BK284.out), GW284.out, GE284.out, NB267_284.out, NB284_267.out, NB268_284.out, NB284_268.out, (by exact bel0)⟩)
   rintro ⟨v273, v277, v281, gb284⟩ w29 ⟨hS_, h0_, h1_, h2_, h3_, h4_, h5_, h6_, h7_, h8_, h9_, h10_, h11_, h12_⟩
   have n0_ : Aside0 (Kd.R k82 82 w29 w.heap.size (fun k_ => some k_ ≠ (v277 : Value).ownBlock ∧ some k_ ≠ (v281 : Value).ownBlock) v273 t272) := ⟨h0_⟩
   have n1_ : Aside0 (Kd.R k82 82 w29 w.heap.size (fun k_ => some k_ ≠ (v273 : Value).ownBlock ∧ some k_ ≠ (v281 : Value).ownBlock) v277 t276) := ⟨h1_⟩
   have n2_ : Aside0 (Kd.R k82 82 w29 w.heap.size (fun k_ => some k_ ≠ (v273 : Value).ownBlock ∧ some k_ ≠ (v277 : Value).ownBlock) v281 t280) := ⟨h2_⟩
   have n3_ : Aside0 (w29.heap[gb267]? = some (.cells #[.int .i64 a0_0, .slice A0_1 l0_1.length c0_1] 37 (0, 0))) := ⟨h3_⟩
   have n4_ : Aside0 (w29.heap[gb268]? = some (.cells #[.int .i64 a1_0, .slice A1_1 l1_1.length c1_1] 37 (0, 0))) := ⟨h4_⟩
   have n5_ : Aside0 (w29.heap[gb284]? = some (.cells #[.int .i64 0, .slice none 0 0] 41 (0, 0))) := ⟨h5_⟩
   have n6_ : Aside0 (w.heap.size ≤ gb284) := ⟨h6_⟩
   have n7_ : Aside0 (w.heap.size ≤ gb284) := ⟨h7_⟩
   have n8_ : Aside0 (gb267 ≠ gb284) := ⟨h8_⟩
   have n9_ : Aside0 (gb284 ≠ gb267) := ⟨h9_⟩
   have n10_ : Aside0 (gb268 ≠ gb284) := ⟨h10_⟩
   have n11_ : Aside0 (gb284 ≠ gb268) := ⟨h11_⟩
   have n12_ : Aside0 (Below w.heap.size w w29) := ⟨h12_⟩
   clear BK267; clear BK268; clear HB; clear h0_ h1_ h2_ h3_ h4_ h5_ h6_ h7_ h8_ h9_ h10_ h11_ h12_
   have HO274 := n0_
   have HO278 := n1_
   have HO282 := n2_
   have BK267 := n3_
   have BK268 := n4_
   have BK284 := n5_
   have GW284 := n6_
   have GE284 := n7_
   have NB267_284 := n8_
   have NB284_267 := n9_
   have NB268_284 := n10_
   have NB284_268 := n11_
   have HB := n12_
   clear n0_ n1_ n2_ n3_ n4_ n5_ n6_ n7_ n8_ n9_ n10_ n11_ n12_
   have hHeld : w29.cell? ⟨gb267, 0, none⟩ = some (.int .i64 a0_0) ∧ w29.cell? ⟨gb267, 1, none⟩ = some (.slice A0_1 l0_1.length c0_1) ∧ w29.cell? ⟨gb268, 0, none⟩ = some (.int .i64 a1_0) ∧ w29.cell? ⟨gb268, 1, none⟩ = some (.slice A1_1 l1_1.length c1_1) := hS_
   obtain ⟨Ao31, co31, eo31⟩ := Kd.R_slice HO282.out
   (first | subst eo31 | (injection eo31 with f1_ f2_ f3_; have f4_ := f1_.symm; have f5_ := f3_.symm; clear f1_ f2_ f3_; subst f4_; subst f5_))
   refine norm_ (a' := ?_) ?_ ?_
   rotate_left; · simp only [putAll, Act.put, List.setIfInBounds_toArray, List.set_cons_zero, List.set_cons_succ]; rfl
   refine one_ (i := 9) (N := none) #[true, true, true, true, true, true, true, true, true, true, false] rfl rfl (one_of HT_.out (by kernel_rfl)) (by decide) (fun K hK => ?_)
   have hs30 : w29.cell? ⟨gb284, 0, none⟩ = some (.int .i64 0) := (blk_cell BK284.out 0).trans rfl
   have hfs30 := blk_frozen BK284.out 0
   have hns30_0 := NB267_284.out; have hns30_1 := NB268_284.out; have hms30_0 := NB284_267.out; have hms30_1 := NB284_268.out
   have hs32 : w29.cell? ⟨gb284, 1, none⟩ = some (.slice none 0 0) := (blk_cell BK284.out 1).trans rfl
   have hfs32 := blk_frozen BK284.out 1
   have hns32_0 := NB267_284.out; have hns32_1 := NB268_284.out; have hms32_0 := NB284_267.out; have hms32_1 := NB284_268.out
   refine skip_ (w1 := ?_) (by rfl) rfl ?_ ?_
   rotate_left
   ·go_simp
    rfl
   refine hK.out _ _ ⟨((cell_far (p := ⟨gb284, _, none⟩) NB267_284.out _).trans (((cell_far (p := ⟨gb284, _, none⟩) NB267_284.out _).trans (hHeld.1)))), ((cell_far (p := ⟨gb284, _, none⟩) NB267_284.out _).trans (((cell_far (p := ⟨gb284, _, none⟩) NB267_284.out _).trans (hHeld.2.1)))), ((cell_far (p := ⟨gb284, _, none⟩) NB268_284.out _).trans (((cell_far (p := ⟨gb284, _, none⟩) NB268_284.out _).trans (hHeld.2.2.1)))), ((cell_far (p := ⟨gb284, _, none⟩) NB268_284.out _).trans (((cell_far (p := ⟨gb284, _, none⟩) NB268_284.out _).trans (hHeld.2.2.2))))⟩ (fun hHeld => ?_)
   clear hK K
   refine pure_ (i := 10) (N := some 7) (v := ?_) (a' := ?_) #[true, true, true, true, true, true, true, true, true, true, true] rfl rfl (any_of HT_.out (by kernel_rfl)) (fun _ _ _ h => h) (Or.inl ⟨by rfl, ?_⟩) ?_ ?_
   rotate_left; · intro w'; go_simp; with_reducible rfl
   rotate_left; · simp only [Act.put, List.setIfInBounds_toArray, List.set_cons_zero, List.set_cons_succ, i64_w, i32_w]; rfl
   refine done_ (done_of HT_.out (by kernel_rfl)) ?_
   have hnb33 := NB267_268.out; have hnc33 := NB268_267.out; have hnb34 := NB267_284.out; have hnc34 := NB284_267.out; obtain ⟨hcz35_0, hcz35_1⟩ := blkz2 BK267.out; have hfz35_0 := blkf BK267.out
   go_upto_region 12 with (first | ((with_reducible refine gate_callee (f := 25) rfl ?_); refine goesL_ (some 36) rfl rfl Try.func25 (by kernel_rfl) rfl #[.agg #[.int .i64 a0_0, .slice A0_1 l0_1.length c0_1]] rfl (by (try simp only [List.map_toArray, List.map_cons, List.map_nil]); first | done | rfl | (simp only [List.length_drop, List.length_take]; rfl)) ?_; (with_reducible refine (laws_toTable.calls k a0_0 _ _ l0_1 t285 t286 _ ?side1 ?side2 A18.out).mono ?_); (case side1 => exact Kd.C_below HR0_1.out (by exact bel0)); (case side2 => exact HC0_1.out); rintro e w36 ⟨v287, rfl, ho0, hb⟩; refine ⟨_, rfl, ?_⟩; have n_ := an (Kd.R_elder' (by exact (Kd.R_farN HO274.out BK284.out)) (Kd.R_base ho0) hb) (an (Kd.R_elder' (by exact (Kd.R_farN HO278.out BK284.out)) (Kd.R_base ho0) hb) (an (Kd.R_elder' (by exact (Kd.R_farN HO282.out BK284.out)) (Kd.R_base ho0) hb) (an (Kd.R_lower (Kd.R_new' (Kd.R_new' (Kd.R_new' ho0 (Kd.R_lt (by exact (Kd.R_farN HO274.out BK284.out)))) (Kd.R_lt (by exact (Kd.R_farN HO278.out BK284.out)))) (Kd.R_lt (by exact (Kd.R_farN HO282.out BK284.out)))) (below_size (by exact bel0))) (an (blk_below (blk_kb BK267.out NB267_284.out) hb) (an (blk_below (blk_kb BK268.out NB268_284.out) hb) (an (blk_below (g := gb284) (o := .cells #[.int .i64 t279, .slice Ao31 t280.length co31] 41 (0, 0)) (by (with_reducible repeat (first | refine blk_drewN ?_ _ | refine blk_drew ?_ | refine blk_alloc ?_ _)); exact blk_fill2 BK284.out) hb) (an (below_step (by exact bel0) hb) (trivial)))))))); clear HO274 HO278 HO282 BK267 BK268 BK284 HB; obtain ⟨HO274, HO278, HO282, HO288, BK267, BK268, BK284, HB, -⟩ := n_; (try clear hb); (try clear hb2); (try clear hk); (try clear hi); (try clear ho0)) | ((with_reducible refine gate_dst (N := 8) rfl ?_); refine box_event ?hg (N := 8) ?hd (cs := #[.int .i64 0, .slice none 0 0]) (t := 41) ?hr ?_; (case hd => rfl); (case hg => rfl); (case hr => first | (go_simp; done) | (go_simp; rfl)); intro gb289 hg w37 hbox hb; have n_ := an (Kd.R_below (by exact Kd.R_nw HO274.out) hb) (an (Kd.R_below (by exact Kd.R_nw HO278.out) hb) (an (Kd.R_below (by exact Kd.R_nw HO282.out) hb) (an (Kd.R_below (by exact Kd.R_nw HO288.out) hb) (an (blk_below (blk_nw BK267.out) hb) (an (blk_below (blk_nw BK268.out) hb) (an (blk_below (blk_nw BK284.out) hb) (an (below_step (by exact bel0) hb) (an (hbox) (an ((by rw [hg]; exact (below_size (by exact bel0)) : w.heap.size ≤ gb289)) (an ((by rw [hg]; exact (below_size (by exact bel0)) : w.heap.size ≤ gb289)) (an ((by rw [hg]; exact Nat.ne_of_lt (blk_lt (blk_nw BK267.out)) : gb267 ≠ gb289)) (an ((by rw [hg]; exact Nat.ne_of_gt (blk_lt (blk_nw BK267.out)) : gb289 ≠ gb267)) (an ((by rw [hg]; exact Nat.ne_of_lt (blk_lt (blk_nw BK268.out)) : gb268 ≠ gb289)) (an ((by rw [hg]; exact Nat.ne_of_gt (blk_lt (blk_nw BK268.out)) : gb289 ≠ gb268)) (an ((by rw [hg]; exact Nat.ne_of_lt (blk_lt (blk_nw BK284.out)) : gb284 ≠ gb289)) (an ((by rw [hg]; exact Nat.ne_of_gt (blk_lt (blk_nw BK284.out)) : gb289 ≠ gb284)) (trivial))))))))))))))))); clear HO274 HO278 HO282 HO288 BK267 BK268 BK284 HB; obtain ⟨HO274, HO278, HO282, HO288, BK267, BK268, BK284, HB, BK289, GW289, GE289, NB267_289, NB289_267, NB268_289, NB289_268, NB284_289, NB289_284, -⟩ := n_; clear hb hbox hg; have hnb38 := NB289_267.out; have hnc38 := NB267_289.out; have hnb39 := NB289_268.out; have hnc39 := NB268_289.out; have hnb40 := NB289_284.out; have hnc40 := NB284_289.out; obtain ⟨hcz41_0, hcz41_1⟩ := blkz2 BK289.out; have hfz41_0 := blkf BK289.out; obtain ⟨Ao42, co42, eo42⟩ := Kd.R_slice HO288.out; subst eo42; have hnb43 := NB268_284.out; have hnc43 := NB284_268.out; obtain ⟨hcz44_0, hcz44_1⟩ := blkz2 BK268.out; have hfz44_0 := blkf BK268.out) | ((with_reducible refine gate_callee (f := 25) rfl ?_); refine goesL_ (some 38) rfl rfl Try.func25 (by kernel_rfl) rfl #[.agg #[.int .i64 a1_0, .slice A1_1 l1_1.length c1_1]] rfl (by (try simp only [List.map_toArray, List.map_cons, List.map_nil]); first | done | rfl | (simp only [List.length_drop, List.length_take]; rfl)) ?_; (with_reducible refine (laws_toTable.calls k a1_0 _ _ l1_1 t290 t291 _ ?side1 ?side2 A19.out).mono ?_); (case side1 => exact Kd.C_below HR1_1.out (by exact bel0)); (case side2 => exact HC1_1.out); rintro e w45 ⟨v292, rfl, ho0, hb⟩; refine ⟨_, rfl, ?_⟩; have n_ := an (Kd.R_elder' (by exact (Kd.R_farN HO274.out BK289.out)) (Kd.R_base ho0) hb) (an (Kd.R_elder' (by exact (Kd.R_farN HO278.out BK289.out)) (Kd.R_base ho0) hb) (an (Kd.R_elder' (by exact (Kd.R_farN HO282.out BK289.out)) (Kd.R_base ho0) hb) (an (Kd.R_elder' (by exact (Kd.R_farN HO288.out BK289.out)) (Kd.R_base ho0) hb) (an (Kd.R_lower (Kd.R_new' (Kd.R_new' (Kd.R_new' (Kd.R_new' ho0 (Kd.R_lt (by exact (Kd.R_farN HO274.out BK289.out)))) (Kd.R_lt (by exact (Kd.R_farN HO278.out BK289.out)))) (Kd.R_lt (by exact (Kd.R_farN HO282.out BK289.out)))) (Kd.R_lt (by exact (Kd.R_farN HO288.out BK289.out)))) (below_size (by exact bel0))) (an (blk_below (blk_kb BK267.out NB267_289.out) hb) (an (blk_below (blk_kb BK268.out NB268_289.out) hb) (an (blk_below (blk_kb BK284.out NB284_289.out) hb) (an (blk_below (g := gb289) (o := .cells #[.int .i64 t285, .slice Ao42 t286.length co42] 41 (0, 0)) (by (with_reducible repeat (first | refine blk_drewN ?_ _ | refine blk_drew ?_ | refine blk_alloc ?_ _)); exact blk_fill2 BK289.out) hb) (an (below_step (by exact bel0) hb) (trivial)))))))))); clear HO274 HO278 HO282 HO288 BK267 BK268 BK284 BK289 HB; obtain ⟨HO274, HO278, HO282, HO288, HO293, BK267, BK268, BK284, BK289, HB, -⟩ := n_; (try clear hb); (try clear hb2); (try clear hk); (try clear hi); (try clear ho0)) | ((with_reducible refine gate_dst (N := 9) rfl ?_); refine box_event ?hg (N := 9) ?hd (cs := #[.int .i64 0, .slice none 0 0]) (t := 41) ?hr ?_; (case hd => rfl); (case hg => rfl); (case hr => first | (go_simp; done) | (go_simp; rfl)); intro gb294 hg w46 hbox hb; have n_ := an (Kd.R_below (by exact Kd.R_nw HO274.out) hb) (an (Kd.R_below (by exact Kd.R_nw HO278.out) hb) (an (Kd.R_below (by exact Kd.R_nw HO282.out) hb) (an (Kd.R_below (by exact Kd.R_nw HO288.out) hb) (an (Kd.R_below (by exact Kd.R_nw HO293.out) hb) (an (blk_below (blk_nw BK267.out) hb) (an (blk_below (blk_nw BK268.out) hb) (an (blk_below (blk_nw BK284.out) hb) (an (blk_below (blk_nw BK289.out) hb) (an (below_step (by exact bel0) hb) (an (hbox) (an ((by rw [hg]; exact (below_size (by exact bel0)) : w.heap.size ≤ gb294)) (an ((by rw [hg]; exact (below_size (by exact bel0)) : w.heap.size ≤ gb294)) (an ((by rw [hg]; exact Nat.ne_of_lt (blk_lt (blk_nw BK267.out)) : gb267 ≠ gb294)) (an ((by rw [hg]; exact Nat.ne_of_gt (blk_lt (blk_nw BK267.out)) : gb294 ≠ gb267)) (an ((by rw [hg]; exact Nat.ne_of_lt (blk_lt (blk_nw BK268.out)) : gb268 ≠ gb294)) (an ((by rw [hg]; exact Nat.ne_of_gt (blk_lt (blk_nw BK268.out)) : gb294 ≠ gb268)) (an ((by rw [hg]; exact Nat.ne_of_lt (blk_lt (blk_nw BK284.out)) : gb284 ≠ gb294)) (an ((by rw [hg]; exact Nat.ne_of_gt (blk_lt (blk_nw BK284.out)) : gb294 ≠ gb284)) (an ((by rw [hg]; exact Nat.ne_of_lt (blk_lt (blk_nw BK289.out)) : gb289 ≠ gb294)) (an ((by rw [hg]; exact Nat.ne_of_gt (blk_lt (blk_nw BK289.out)) : gb294 ≠ gb289)) (trivial))))))))))))))))))))); clear HO274 HO278 HO282 HO288 HO293 BK267 BK268 BK284 BK289 HB; obtain ⟨HO274, HO278, HO282, HO288, HO293, BK267, BK268, BK284, BK289, HB, BK294, GW294, GE294, NB267_294, NB294_267, NB268_294, NB294_268, NB284_294, NB294_284, NB289_294, NB294_289, -⟩ := n_; clear hb hbox hg; have hnb47 := NB294_267.out; have hnc47 := NB267_294.out; have hnb48 := NB294_268.out; have hnc48 := NB268_294.out; have hnb49 := NB294_284.out; have hnc49 := NB284_294.out; have hnb50 := NB294_289.out; have hnc50 := NB289_294.out; obtain ⟨hcz51_0, hcz51_1⟩ := blkz2 BK294.out; have hfz51_0 := blkf BK294.out; obtain ⟨Ao52, co52, eo52⟩ := Kd.R_slice HO293.out; subst eo52; obtain ⟨hcz53_0, hcz53_1⟩ := blkz2 BK289.out; have hfz53_0 := blkf BK289.out) | ((with_reducible refine gate_callee (f := 55) rfl ?_); refine goesL_ (some 42) rfl rfl Try.func55 (by kernel_rfl) rfl #[.agg #[.int .i64 t285, .slice Ao42 t286.length co42], .agg #[.int .i64 t290, .slice Ao52 t291.length co52]] rfl (by (try simp only [List.map_toArray, List.map_cons, List.map_nil]); first | done | rfl | (simp only [List.length_drop, List.length_take]; rfl)) ?_; (with_reducible refine (impl_Merge.calls k t285 _ _ t286 t290 _ _ t291 t295 t296 t299 _ ?side1 ?side2 ?side3 ?side4 A20.out).mono ?_); (case side1 => refine (Kd.R_reads' (e := 82) (base := w.heap.size) (ok := fun k_ => ((((True ∧ some k_ ≠ (v273 : Value).ownBlock) ∧ some k_ ≠ (v277 : Value).ownBlock) ∧ some k_ ≠ (.slice Ao31 t280.length co31 : Value).ownBlock) ∧ some k_ ≠ (.slice Ao52 t291.length co52 : Value).ownBlock)) (n := t286.length) (c := co42) ?_).2.2; exact (by exact (Kd.R_farN HO288.out BK294.out))); (case side2 => exact (Kd.R_reads' HO288.out).2.1); (case side3 => refine (Kd.R_reads' (e := 82) (base := w.heap.size) (ok := fun k_ => ((((True ∧ some k_ ≠ (v273 : Value).ownBlock) ∧ some k_ ≠ (v277 : Value).ownBlock) ∧ some k_ ≠ (.slice Ao31 t280.length co31 : Value).ownBlock) ∧ some k_ ≠ (.slice Ao42 t286.length co42 : Value).ownBlock)) (n := t291.length) (c := co52) ?_).2.2; exact (by exact (Kd.R_farN HO293.out BK294.out))); (case side4 => exact (Kd.R_reads' HO293.out).2.1); rintro e w54 ⟨v297, rfl, ho0, hb⟩; refine ⟨_, rfl, ?_⟩; have n_ := an (Kd.R_elder' (by exact (Kd.R_farN HO274.out BK294.out)) (Kd.R_base ho0) hb) (an (Kd.R_elder' (by exact (Kd.R_farN HO278.out BK294.out)) (Kd.R_base ho0) hb) (an (Kd.R_elder' (by exact (Kd.R_farN HO282.out BK294.out)) (Kd.R_base ho0) hb) (an (Kd.R_elder' (by exact (Kd.R_farN HO288.out BK294.out)) (Kd.R_base ho0) hb) (an (Kd.R_elder' (by exact (Kd.R_farN HO293.out BK294.out)) (Kd.R_base ho0) hb) (an (Kd.R_lower (Kd.R_new' (Kd.R_new' (Kd.R_new' (Kd.R_new' (Kd.R_new' ho0 (Kd.R_lt (by exact (Kd.R_farN HO274.out BK294.out)))) (Kd.R_lt (by exact (Kd.R_farN HO278.out BK294.out)))) (Kd.R_lt (by exact (Kd.R_farN HO282.out BK294.out)))) (Kd.R_lt (by exact (Kd.R_farN HO288.out BK294.out)))) (Kd.R_lt (by exact (Kd.R_farN HO293.out BK294.out)))) (below_size (by exact bel0))) (an (blk_below (blk_kb BK267.out NB267_294.out) hb) (an (blk_below (blk_kb BK268.out NB268_294.out) hb) (an (blk_below (blk_kb BK284.out NB284_294.out) hb) (an (blk_below (blk_kb BK289.out NB289_294.out) hb) (an (blk_below (g := gb294) (o := .cells #[.int .i64 t290, .slice Ao52 t291.length co52] 41 (0, 0)) (by (with_reducible repeat (first | refine blk_drewN ?_ _ | refine blk_drew ?_ | refine blk_alloc ?_ _)); exact blk_fill2 BK294.out) hb) (an (below_step (by exact bel0) hb) (trivial)))))))))))); clear HO274 HO278 HO282 HO288 HO293 BK267 BK268 BK284 BK289 BK294 HB; obtain ⟨HO274, HO278, HO282, HO288, HO293, HO298, BK267, BK268, BK284, BK289, BK294, HB, -⟩ := n_; (try clear hb); (try clear hb2); (try clear hk); (try clear hi); (try clear ho0)) | ((with_reducible refine gate_dst (N := 10) rfl ?_); refine box_event ?hg (N := 10) ?hd (cs := #[.int .i64 0, .slice none 0 0]) (t := 41) ?hr ?_; (case hd => rfl); (case hg => rfl); (case hr => first | (go_simp; done) | (go_simp; rfl)); intro gb300 hg w55 hbox hb; have n_ := an (Kd.R_below (by exact Kd.R_nw HO274.out) hb) (an (Kd.R_below (by exact Kd.R_nw HO278.out) hb) (an (Kd.R_below (by exact Kd.R_nw HO282.out) hb) (an (Kd.R_below (by exact Kd.R_nw HO288.out) hb) (an (Kd.R_below (by exact Kd.R_nw HO293.out) hb) (an (Kd.R_below (by exact Kd.R_nw HO298.out) hb) (an (blk_below (blk_nw BK267.out) hb) (an (blk_below (blk_nw BK268.out) hb) (an (blk_below (blk_nw BK284.out) hb) (an (blk_below (blk_nw BK289.out) hb) (an (blk_below (blk_nw BK294.out) hb) (an (below_step (by exact bel0) hb) (an (hbox) (an ((by rw [hg]; exact (below_size (by exact bel0)) : w.heap.size ≤ gb300)) (an ((by rw [hg]; exact (below_size (by exact bel0)) : w.heap.size ≤ gb300)) (an ((by rw [hg]; exact Nat.ne_of_lt (blk_lt (blk_nw BK267.out)) : gb267 ≠ gb300)) (an ((by rw [hg]; exact Nat.ne_of_gt (blk_lt (blk_nw BK267.out)) : gb300 ≠ gb267)) (an ((by rw [hg]; exact Nat.ne_of_lt (blk_lt (blk_nw BK268.out)) : gb268 ≠ gb300)) (an ((by rw [hg]; exact Nat.ne_of_gt (blk_lt (blk_nw BK268.out)) : gb300 ≠ gb268)) (an ((by rw [hg]; exact Nat.ne_of_lt (blk_lt (blk_nw BK284.out)) : gb284 ≠ gb300)) (an ((by rw [hg]; exact Nat.ne_of_gt (blk_lt (blk_nw BK284.out)) : gb300 ≠ gb284)) (an ((by rw [hg]; exact Nat.ne_of_lt (blk_lt (blk_nw BK289.out)) : gb289 ≠ gb300)) (an ((by rw [hg]; exact Nat.ne_of_gt (blk_lt (blk_nw BK289.out)) : gb300 ≠ gb289)) (an ((by rw [hg]; exact Nat.ne_of_lt (blk_lt (blk_nw BK294.out)) : gb294 ≠ gb300)) (an ((by rw [hg]; exact Nat.ne_of_gt (blk_lt (blk_nw BK294.out)) : gb300 ≠ gb294)) (trivial))))))))))))))))))))))))); clear HO274 HO278 HO282 HO288 HO293 HO298 BK267 BK268 BK284 BK289 BK294 HB; obtain ⟨HO274, HO278, HO282, HO288, HO293, HO298, BK267, BK268, BK284, BK289, BK294, HB, BK300, GW300, GE300, NB267_300, NB300_267, NB268_300, NB300_268, NB284_300, NB300_284, NB289_300, NB300_289, NB294_300, NB300_294, -⟩ := n_; clear hb hbox hg; have hnb56 := NB300_267.out; have hnc56 := NB267_300.out; have hnb57 := NB300_268.out; have hnc57 := NB268_300.out; have hnb58 := NB300_284.out; have hnc58 := NB284_300.out; have hnb59 := NB300_289.out; have hnc59 := NB289_300.out; have hnb60 := NB300_294.out; have hnc60 := NB294_300.out; obtain ⟨hcz61_0, hcz61_1⟩ := blkz2 BK300.out; have hfz61_0 := blkf BK300.out; obtain ⟨Ao62, co62, eo62⟩ := Kd.R_slice HO298.out; subst eo62))
   (try simp only [Act.put, List.setIfInBounds_toArray, List.set_cons_zero, List.set_cons_succ])
   go_cut [53] (fun v53 wc => ∃ (kq : Nat) (x53_20 : Bool), v53 = .bool x53_20 ∧ Aside0 (laws_FnExactMerge.j0 kq t283 t299 x53_20 a0_0 l0_1 a1_0 l1_1 t279 t280 t285 t286 t290 t291 t295 t296 = some r) ∧ Aside0 (kq ≤ k) ∧ Aside0 (Kd.R k82 82 wc w.heap.size (fun k_ => some k_ ≠ ((.slice Ao42 t286.length co42) : Value).ownBlock ∧ some k_ ≠ ((.slice Ao52 t291.length co52) : Value).ownBlock ∧ some k_ ≠ ((.slice Ao62 t296.length co62) : Value).ownBlock) (.slice Ao31 t280.length co31) t280) ∧ Aside0 (Kd.R k82 82 wc w.heap.size (fun k_ => some k_ ≠ ((.slice Ao31 t280.length co31) : Value).ownBlock ∧ some k_ ≠ ((.slice Ao52 t291.length co52) : Value).ownBlock ∧ some k_ ≠ ((.slice Ao62 t296.length co62) : Value).ownBlock) (.slice Ao42 t286.length co42) t286) ∧ Aside0 (Kd.R k82 82 wc w.heap.size (fun k_ => some k_ ≠ ((.slice Ao31 t280.length co31) : Value).ownBlock ∧ some k_ ≠ ((.slice Ao42 t286.length co42) : Value).ownBlock ∧ some k_ ≠ ((.slice Ao62 t296.length co62) : Value).ownBlock) (.slice Ao52 t291.length co52) t291) ∧ Aside0 (Kd.R k82 82 wc w.heap.size (fun k_ => some k_ ≠ ((.slice Ao31 t280.length co31) : Value).ownBlock ∧ some k_ ≠ ((.slice Ao42 t286.length co42) : Value).ownBlock ∧ some k_ ≠ ((.slice Ao52 t291.length co52) : Value).ownBlock) (.slice Ao62 t296.length co62) t296) ∧ Aside0 (wc.heap[gb267]? = some (.cells #[.int .i64 a0_0, (.slice A0_1 l0_1.length c0_1)] 37 (0, 0))) ∧ Aside0 (wc.heap[gb268]? = some (.cells #[.int .i64 a1_0, (.slice A1_1 l1_1.length c1_1)] 37 (0, 0))) ∧ Aside0 (wc.heap[gb284]? = some (.cells #[.int .i64 t279, (.slice Ao31 t280.length co31)] 41 (0, 0))) ∧ Aside0 (wc.heap[gb289]? = some (.cells #[.int .i64 t285, (.slice Ao42 t286.length co42)] 41 (0, 0))) ∧ Aside0 (wc.heap[gb294]? = some (.cells #[.int .i64 t290, (.slice Ao52 t291.length co52)] 41 (0, 0))) ∧ Aside0 (wc.heap[gb300]? = some (.cells #[.int .i64 t295, (.slice Ao62 t296.length co62)] 41 (0, 0))) ∧ Aside0 (Below w.heap.size w wc))
   case first =>
    have H := HC21.out; clear HC21; replace H := Option.bind_eq_some_iff.mp H; obtain ⟨t301, A630, H⟩ := H; have A63 := Aside0.mk A630; clear A630; have hnb64 := NB300_267.out; have hnc64 := NB267_300.out; have hnb65 := NB300_268.out; have hnc65 := NB268_300.out; have hnb66 := NB300_284.out; have hnc66 := NB284_300.out; have hnb67 := NB300_289.out; have hnc67 := NB289_300.out; have hnb68 := NB300_294.out; have hnc68 := NB294_300.out; obtain ⟨hcz69_0, hcz69_1⟩ := blkz2 BK300.out; have hfz69_0 := blkf BK300.out; have hnb70 := NB284_267.out; have hnc70 := NB267_284.out; have hnb71 := NB284_268.out; have hnc71 := NB268_284.out; have hnb72 := NB284_289.out; have hnc72 := NB289_284.out; have hnb73 := NB284_294.out; have hnc73 := NB294_284.out; obtain ⟨hcz74_0, hcz74_1⟩ := blkz2 BK284.out; have hfz74_0 := blkf BK284.out
    replace H := Aside0.mk H
    go_wp2_with (first | ((with_reducible refine gate_callee (f := 27) rfl ?_); refine goesL_ (some 47) rfl rfl Try.func27 (by kernel_rfl) rfl #[.agg #[.int .i64 t295, .slice Ao62 t296.length co62], .agg #[.int .i64 t279, .slice Ao31 t280.length co31]] rfl (by (try simp only [List.map_toArray, List.map_cons, List.map_nil]); first | done | rfl | (simp only [List.length_drop, List.length_take]; rfl)) ?_; (with_reducible refine (laws_eqTable.calls k t295 _ _ t296 t279 _ _ t280 t301 _ ?side1 ?side2 ?side3 ?side4 A63.out).mono ?_); (case side1 => refine (Kd.R_reads' (e := 82) (base := w.heap.size) (ok := fun k_ => (((((True ∧ some k_ ≠ (v273 : Value).ownBlock) ∧ some k_ ≠ (v277 : Value).ownBlock) ∧ some k_ ≠ (.slice Ao31 t280.length co31 : Value).ownBlock) ∧ some k_ ≠ (.slice Ao42 t286.length co42 : Value).ownBlock) ∧ some k_ ≠ (.slice Ao52 t291.length co52 : Value).ownBlock)) (n := t296.length) (c := co62) ?_).2.2; exact (by exact (Kd.R_farN HO298.out BK300.out))); (case side2 => exact (Kd.R_reads' HO298.out).2.1); (case side3 => refine (Kd.R_reads' (e := 82) (base := w.heap.size) (ok := fun k_ => ((((some k_ ≠ (v273 : Value).ownBlock ∧ some k_ ≠ (v277 : Value).ownBlock) ∧ some k_ ≠ (.slice Ao42 t286.length co42 : Value).ownBlock) ∧ some k_ ≠ (.slice Ao52 t291.length co52 : Value).ownBlock) ∧ some k_ ≠ (.slice Ao62 t296.length co62 : Value).ownBlock)) (n := t280.length) (c := co31) ?_).2.2; exact (by exact (Kd.R_farN HO282.out BK300.out))); (case side4 => exact (Kd.R_reads' HO282.out).2.1); rintro e w75 ⟨rfl, hb⟩; refine ⟨_, rfl, ?_⟩; have n_ := an (Kd.R_below (by exact (Kd.R_farN HO274.out BK300.out)) hb) (an (Kd.R_below (by exact (Kd.R_farN HO278.out BK300.out)) hb) (an (Kd.R_below (by exact (Kd.R_farN HO282.out BK300.out)) hb) (an (Kd.R_below (by exact (Kd.R_farN HO288.out BK300.out)) hb) (an (Kd.R_below (by exact (Kd.R_farN HO293.out BK300.out)) hb) (an (Kd.R_below (by exact (Kd.R_farN HO298.out BK300.out)) hb) (an (blk_below (blk_kb BK267.out NB267_300.out) hb) (an (blk_below (blk_kb BK268.out NB268_300.out) hb) (an (blk_below (blk_kb BK284.out NB284_300.out) hb) (an (blk_below (blk_kb BK289.out NB289_300.out) hb) (an (blk_below (blk_kb BK294.out NB294_300.out) hb) (an (blk_below (g := gb300) (o := .cells #[.int .i64 t295, .slice Ao62 t296.length co62] 41 (0, 0)) (by (with_reducible repeat (first | refine blk_drewN ?_ _ | refine blk_drew ?_ | refine blk_alloc ?_ _)); exact blk_fill2 BK300.out) hb) (an (below_step (by exact bel0) hb) (trivial))))))))))))); clear HO274 HO278 HO282 HO288 HO293 HO298 BK267 BK268 BK284 BK289 BK294 BK300 HB; obtain ⟨HO274, HO278, HO282, HO288, HO293, HO298, BK267, BK268, BK284, BK289, BK294, BK300, HB, -⟩ := n_; (try clear hb); (try clear hb2); (try clear hk); (try clear hi); refine Stop.out ?_))
    refine Stop.mk ?_
    replace H := H.out
    by_cases c76 : t301 = true
    ·subst c76; rw [if_pos rfl] at H
     have H' := Aside0.mk H
     clear H
     go_wp2
     go_meet
     case rel => exact ⟨_, ((t299 != t283)), (by first | rfl | (simp; done) | (simp [*]; done)), H', ⟨by first | omega | exact Nat.le_refl _⟩, ⟨by exact Kd.R_nw (Kd.R_mono HO282.out (fun _ hk => ⟨hk.1.1.2, ⟨hk.1.2, hk.2⟩⟩))⟩, ⟨by exact Kd.R_nw (Kd.R_mono HO288.out (fun _ hk => ⟨hk.1.1.2, ⟨hk.1.2, hk.2⟩⟩))⟩, ⟨by exact Kd.R_nw (Kd.R_mono HO293.out (fun _ hk => ⟨hk.1.1.2, ⟨hk.1.2, hk.2⟩⟩))⟩, ⟨by exact Kd.R_nw (Kd.R_mono HO298.out (fun _ hk => ⟨hk.1.1.2, ⟨hk.1.2, hk.2⟩⟩))⟩, ⟨by exact blk_nw BK267.out⟩, ⟨by exact blk_nw BK268.out⟩, ⟨by exact blk_nw BK284.out⟩, ⟨by exact blk_nw BK289.out⟩, ⟨by exact blk_nw BK294.out⟩, ⟨by exact blk_nw BK300.out⟩, ⟨by exact bel0⟩⟩
    ·replace c76 := Bool.eq_false_iff.mpr c76
     subst c76
     rw [if_neg (show ¬ (false = true) by decide)] at H
     have H' := Aside0.mk H
     clear H
     go_wp2
     go_meet
     case rel => exact ⟨_, (true), (by first | rfl | (simp; done) | (simp [*]; done)), H', ⟨by first | omega | exact Nat.le_refl _⟩, ⟨by exact Kd.R_nw (Kd.R_mono HO282.out (fun _ hk => ⟨hk.1.1.2, ⟨hk.1.2, hk.2⟩⟩))⟩, ⟨by exact Kd.R_nw (Kd.R_mono HO288.out (fun _ hk => ⟨hk.1.1.2, ⟨hk.1.2, hk.2⟩⟩))⟩, ⟨by exact Kd.R_nw (Kd.R_mono HO293.out (fun _ hk => ⟨hk.1.1.2, ⟨hk.1.2, hk.2⟩⟩))⟩, ⟨by exact Kd.R_nw (Kd.R_mono HO298.out (fun _ hk => ⟨hk.1.1.2, ⟨hk.1.2, hk.2⟩⟩))⟩, ⟨by exact blk_nw BK267.out⟩, ⟨by exact blk_nw BK268.out⟩, ⟨by exact blk_nw BK284.out⟩, ⟨by exact blk_nw BK289.out⟩, ⟨by exact blk_nw BK294.out⟩, ⟨by exact blk_nw BK300.out⟩, ⟨by exact bel0⟩⟩
   case rest =>
    clear HC21; try clear c1; try clear c2; try clear p2; try clear c3; try clear c4; try clear c5; try clear c6; try clear c7; try clear c14; try clear c14b0; try clear c23; try clear c25; try clear c27; try clear c33; try clear c34; try clear c38; try clear c39; try clear c40; try clear c43; try clear c47; try clear c48; try clear c49; try clear c50; try clear c54; try clear c55; try clear c56; try clear c57; try clear c58; try clear c59; try clear c60; try clear c64; try clear c65; try clear c66; try clear c67; try clear c68; try clear c70; try clear c71; try clear c72; try clear c73; try clear c76; try clear hcz12_1; try clear hcz35_0; try clear hcz35_1; try clear hcz41_0; try clear hcz41_1; try clear hcz44_0; try clear hcz44_1; try clear hcz51_0; try clear hcz51_1; try clear hcz53_0; try clear hcz53_1; try clear hcz61_0; try clear hcz61_1; try clear hcz69_0; try clear hcz69_1; try clear hcz74_0; try clear hcz74_1; try clear hfz12_0; try clear hfz12_1; try clear hfz35_0; try clear hfz35_1; try clear hfz41_0; try clear hfz41_1; try clear hfz44_0; try clear hfz44_1; try clear hfz51_0; try clear hfz51_1; try clear hfz53_0; try clear hfz53_1; try clear hfz61_0; try clear hfz61_1; try clear hfz69_0; try clear hfz69_1; try clear hfz74_0; try clear hfz74_1
    obtain ⟨kq, x53_20, rfl, HA, HJ20, HO_285001, HO_290001, HO_295001, HO_301001, BK267, BK268, BK284, BK289, BK294, BK300, HB⟩ := hcut
    cases kq with
    | zero => exact absurd HA.out (by simp [laws_FnExactMerge.j0])
    | succ kj20 =>
     have H := HA.out; clear HA
     simp only [laws_FnExactMerge.j0] at H
     by_cases c77 : x53_20 = true
     ·subst c77; rw [if_pos rfl] at H
      obtain rfl := Option.some.inj H
      go_wp2
      go_ret
      exact ⟨by first | rfl | (simp [errW_none, errW_some] <;> rfl) | (simp [*, errW_none, errW_some] <;> rfl), by exact bel0⟩
     ·replace c77 := Bool.eq_false_iff.mpr c77
      subst c77
      rw [if_neg (show ¬ (false = true) by decide)] at H
      replace H := Option.bind_eq_some_iff.mp H
      obtain ⟨⟨t302, t303⟩, A780, H⟩ := H
      replace H : ((laws_eqTable.f kj20 t285 t286 t302 t303).bind fun t306 => (if t306 = true then ((laws_toTable.f kj20 a1_0 l1_1).bind fun bt307 => ((laws_eqTable.f kj20 t290 t291 bt307.1 bt307.2).bind fun t311 => (if t311 = true then ((laws_markTable.f kj20 t285 t286 1).bind fun bt312 => ((laws_markTable.f kj20 t290 t291 bt312.1).bind fun bt314 => (if bt314.1 < 0 then (laws_FnExactMerge.j1 kj20 t283 true a0_0 l0_1 a1_0 l1_1 t279 t280 t295 t296) else ((laws_eqTable.f kj20 t295 t296 t279 t280).bind fun t316 => (if t316 = true then (laws_FnExactMerge.j1 kj20 t283 (t299 != t283) a0_0 l0_1 a1_0 l1_1 t279 t280 t295 t296) else (laws_FnExactMerge.j1 kj20 t283 true a0_0 l0_1 a1_0 l1_1 t279 t280 t295 t296)))))) else (some false)))) else (some false))) = some r := H
      have A78 := Aside0.mk A780; clear A780; replace H := Option.bind_eq_some_iff.mp H; obtain ⟨t306, A790, H⟩ := H; have A79 := Aside0.mk A790; clear A790
      replace H := Aside0.mk H
      try go_wp2
      have n_ := an (Kd.R_drew HO_285001.out) (an (Kd.R_drew HO_290001.out) (an (Kd.R_drew HO_295001.out) (an (Kd.R_drew HO_301001.out) (an (blk_drew BK267.out) (an (blk_drew BK268.out) (an (blk_drew BK284.out) (an (blk_drew BK289.out) (an (blk_drew BK294.out) (an (blk_drew BK300.out) (an (below_drew1 HB.out) (trivial)))))))))))
      clear HO_285001 HO_290001 HO_295001 HO_301001 BK267 BK268 BK284 BK289 BK294 BK300 HB
      obtain ⟨HO_285001, HO_290001, HO_295001, HO_301001, BK267, BK268, BK284, BK289, BK294, BK300, HB, -⟩ := n_
      refine start_ (n := 5) (S := fun w' => w'.cell? ⟨gb289, 0, none⟩ = some (.int .i64 t285) ∧ w'.cell? ⟨gb289, 1, none⟩ = some (.slice Ao42 t286.length co42) ∧ w'.cell? ⟨gb267, 0, none⟩ = some (.int .i64 a0_0) ∧ w'.cell? ⟨gb267, 1, none⟩ = some (.slice A0_1 l0_1.length c0_1)) (ds := []) #[false, false, false, false, false] (by kernel_rfl) rfl rfl ⟨(blk_cell BK289.out 0).trans rfl, (blk_cell BK289.out 1).trans rfl, (blk_cell BK267.out 0).trans rfl, (blk_cell BK267.out 1).trans rfl⟩ (fun hHeld => ?_)
      generalize wc.drew = w80 at HO_285001 HO_290001 HO_295001 HO_301001 BK267 BK268 BK284 BK289 BK294 BK300 HB hHeld ⊢
      refine take_ (i := 0) (N := some 54) (v := ?_) (a' := ?_) #[true, false, false, false, false] rfl rfl (by kernel_rfl) (fun _ _ _ h => h) (Or.inl ⟨by rfl, ?_⟩) hHeld ?_ ?_
      rotate_left
      ·rintro w' ⟨s0, s1, s2, s3⟩
       go_simp
       with_reducible rfl
      rotate_left; · simp only [Act.put, List.setIfInBounds_toArray, List.set_cons_zero, List.set_cons_succ, i64_w, i32_w]; rfl
      refine take_ (i := 1) (N := some 55) (v := ?_) (a' := ?_) #[true, true, false, false, false] rfl rfl (by kernel_rfl) (fun _ _ _ h => h) (Or.inl ⟨by rfl, ?_⟩) hHeld ?_ ?_
      rotate_left
      ·rintro w' ⟨s0, s1, s2, s3⟩
       go_simp
       with_reducible rfl
      rotate_left; · simp only [Act.put, List.setIfInBounds_toArray, List.set_cons_zero, List.set_cons_succ, i64_w, i32_w]; rfl
      refine one_ (i := 2) (N := some 56) #[true, true, true, false, false] rfl rfl (by kernel_rfl) (by decide) (fun K hK => ?_)
      refine goes_ Try.func25 (by kernel_rfl) rfl #[.agg #[.int .i64 a0_0, .slice A0_1 l0_1.length c0_1]] (by rfl) rfl rfl (by (try simp only [List.map_toArray, List.map_cons, List.map_nil]); first | done | rfl | (simp only [List.length_drop, List.length_take]; rfl)) ?_
      with_reducible refine (laws_toTable.calls kj20 a0_0 _ _ l0_1 t302 t303 _ ?side1 ?side2 A78.out).mono ?_
      (case side1 => repeat (first | exact (Kd.C_below HR0_1.out HB.out) | (with_reducible refine Kd.C_alloc ?_ _) | (with_reducible refine Kd.C_drewN ?_ _) | (with_reducible refine Kd.C_drew ?_)))
      (case side2 => exact HC0_1.out)
      rintro e w81 ⟨v304, rfl, ho0, hb⟩
      refine ⟨_, rfl, ?_⟩
      have n_ := an (Kd.R_elder' (by exact Kd.R_nw HO_285001.out) (Kd.R_base ho0) hb) (an (Kd.R_elder' (by exact Kd.R_nw HO_290001.out) (Kd.R_base ho0) hb) (an (Kd.R_elder' (by exact Kd.R_nw HO_295001.out) (Kd.R_base ho0) hb) (an (Kd.R_elder' (by exact Kd.R_nw HO_301001.out) (Kd.R_base ho0) hb) (an (Kd.R_lower (Kd.R_new' (Kd.R_new' (Kd.R_new' (Kd.R_new' ho0 (Kd.R_lt (by exact Kd.R_nw HO_285001.out))) (Kd.R_lt (by exact Kd.R_nw HO_290001.out))) (Kd.R_lt (by exact Kd.R_nw HO_295001.out))) (Kd.R_lt (by exact Kd.R_nw HO_301001.out))) (below_size (by exact bel0))) (an (blk_below (blk_nw BK267.out) hb) (an (blk_below (blk_nw BK268.out) hb) (an (blk_below (blk_nw BK284.out) hb) (an (blk_below (blk_nw BK289.out) hb) (an (blk_below (blk_nw BK294.out) hb) (an (blk_below (blk_nw BK300.out) hb) (an (below_step (by exact bel0) hb) (trivial))))))))))))
      clear HO_285001 HO_290001 HO_295001 HO_301001 BK267 BK268 BK284 BK289 BK294 BK300 HB
      obtain ⟨HO_285001, HO_290001, HO_295001, HO_301001, HO305, BK267, BK268, BK284, BK289, BK294, BK300, HB, -⟩ := n_
      (try clear hb); (try clear hb2); (try clear hk); (try clear hi); (try clear ho0)
      obtain ⟨Ao82, co82, eo82⟩ := Kd.R_slice HO305.out
      (first | subst eo82 | (injection eo82 with f1_ f2_ f3_; have f4_ := f1_.symm; have f5_ := f3_.symm; clear f1_ f2_ f3_; subst f4_; subst f5_))
      refine hK.out _ _ ⟨(blk_cell BK289.out 0).trans rfl, (blk_cell BK289.out 1).trans rfl, (blk_cell BK267.out 0).trans rfl, (blk_cell BK267.out 1).trans rfl⟩ (fun hHeld => ?_)
      clear hK K
      refine norm_ (a' := ?_) ?_ ?_
      rotate_left
      ·show Act.put _ (some 56) _ = _
       simp only [Act.put, List.setIfInBounds_toArray, List.set_cons_zero, List.set_cons_succ, i64_w, i32_w]
       rfl
      refine one_ (i := 3) (N := some 57) #[true, true, true, true, false] rfl rfl (by kernel_rfl) (by decide) (fun K hK => ?_)
      refine goes_ Try.func27 (by kernel_rfl) rfl #[.agg #[.int .i64 t285, .slice Ao42 t286.length co42], .agg #[.int .i64 t302, .slice Ao82 t303.length co82]] (by rfl) rfl rfl (by (try simp only [List.map_toArray, List.map_cons, List.map_nil]); first | done | rfl | (simp only [List.length_drop, List.length_take]; rfl)) ?_
      with_reducible refine (laws_eqTable.calls kj20 t285 _ _ t286 t302 _ _ t303 t306 _ ?side1 ?side2 ?side3 ?side4 A79.out).mono ?_
      (case side1 => repeat (first | exact (Kd.R_reads' HO_290001.out).2.2 | (with_reducible refine Kd.C_alloc ?_ _) | (with_reducible refine Kd.C_drewN ?_ _) | (with_reducible refine Kd.C_drew ?_)))
      (case side2 => exact (Kd.R_reads' HO_290001.out).2.1)
      (case side3 => repeat (first | exact (Kd.R_reads' HO305.out).2.2 | (with_reducible refine Kd.C_alloc ?_ _) | (with_reducible refine Kd.C_drewN ?_ _) | (with_reducible refine Kd.C_drew ?_)))
      (case side4 => exact (Kd.R_reads' HO305.out).2.1)
      rintro e w83 ⟨rfl, hb⟩
      refine ⟨_, rfl, ?_⟩
      have n_ := an (Kd.R_below (by exact Kd.R_nw HO_285001.out) hb) (an (Kd.R_below (by exact Kd.R_nw HO_290001.out) hb) (an (Kd.R_below (by exact Kd.R_nw HO_295001.out) hb) (an (Kd.R_below (by exact Kd.R_nw HO_301001.out) hb) (an (Kd.R_below (by exact Kd.R_nw HO305.out) hb) (an (blk_below (blk_nw BK267.out) hb) (an (blk_below (blk_nw BK268.out) hb) (an (blk_below (blk_nw BK284.out) hb) (an (blk_below (blk_nw BK289.out) hb) (an (blk_below (blk_nw BK294.out) hb) (an (blk_below (blk_nw BK300.out) hb) (an (below_step (by exact bel0) hb) (trivial))))))))))))
      clear HO_285001 HO_290001 HO_295001 HO_301001 HO305 BK267 BK268 BK284 BK289 BK294 BK300 HB
      obtain ⟨HO_285001, HO_290001, HO_295001, HO_301001, HO305, BK267, BK268, BK284, BK289, BK294, BK300, HB, -⟩ := n_
      (try clear hb); (try clear hb2); (try clear hk); (try clear hi)
      refine hK.out _ _ ⟨(blk_cell BK289.out 0).trans rfl, (blk_cell BK289.out 1).trans rfl, (blk_cell BK267.out 0).trans rfl, (blk_cell BK267.out 1).trans rfl⟩ (fun hHeld => ?_)
      clear hK K
      refine norm_ (a' := ?_) ?_ ?_
      rotate_left
      ·show Act.put _ (some 57) _ = _
       simp only [Act.put, List.setIfInBounds_toArray, List.set_cons_zero, List.set_cons_succ, i64_w, i32_w]
       rfl
      refine pure_ (i := 4) (N := some 58) (v := ?_) (a' := ?_) #[true, true, true, true, true] rfl rfl (by kernel_rfl) (fun _ _ _ h => h) (Or.inl ⟨by rfl, ?_⟩) ?_ ?_
      rotate_left; · intro w'; go_simp; with_reducible rfl
      rotate_left; · simp only [Act.put, List.setIfInBounds_toArray, List.set_cons_zero, List.set_cons_succ, i64_w, i32_w]; rfl
      refine done_ (by kernel_rfl) ?_
      replace H := H.out
      by_cases c84 : t306 = true
      ·subst c84; rw [if_pos rfl] at H; replace H := Option.bind_eq_some_iff.mp H
       obtain ⟨⟨t307, t308⟩, A850, H⟩ := H
       replace H : ((laws_eqTable.f kj20 t290 t291 t307 t308).bind fun t311 => (if t311 = true then ((laws_markTable.f kj20 t285 t286 1).bind fun bt312 => ((laws_markTable.f kj20 t290 t291 bt312.1).bind fun bt314 => (if bt314.1 < 0 then (laws_FnExactMerge.j1 kj20 t283 true a0_0 l0_1 a1_0 l1_1 t279 t280 t295 t296) else ((laws_eqTable.f kj20 t295 t296 t279 t280).bind fun t316 => (if t316 = true then (laws_FnExactMerge.j1 kj20 t283 (t299 != t283) a0_0 l0_1 a1_0 l1_1 t279 t280 t295 t296) else (laws_FnExactMerge.j1 kj20 t283 true a0_0 l0_1 a1_0 l1_1 t279 t280 t295 t296)))))) else (some false))) = some r := H
       have A85 := Aside0.mk A850; clear A850; replace H := Option.bind_eq_some_iff.mp H; obtain ⟨t311, A860, H⟩ := H; have A86 := Aside0.mk A860; clear A860
       replace H := Aside0.mk H
       try go_wp2
       have n_ := an (Kd.R_drew HO_285001.out) (an (Kd.R_drew HO_290001.out) (an (Kd.R_drew HO_295001.out) (an (Kd.R_drew HO_301001.out) (an (Kd.R_drew HO305.out) (an (blk_drew BK267.out) (an (blk_drew BK268.out) (an (blk_drew BK284.out) (an (blk_drew BK289.out) (an (blk_drew BK294.out) (an (blk_drew BK300.out) (an (below_drew1 HB.out) (trivial))))))))))))
       clear HO_285001 HO_290001 HO_295001 HO_301001 HO305 BK267 BK268 BK284 BK289 BK294 BK300 HB
       obtain ⟨HO_285001, HO_290001, HO_295001, HO_301001, HO305, BK267, BK268, BK284, BK289, BK294, BK300, HB, -⟩ := n_
       refine start_ (n := 5) (S := fun w' => w'.cell? ⟨gb294, 0, none⟩ = some (.int .i64 t290) ∧ w'.cell? ⟨gb294, 1, none⟩ = some (.slice Ao52 t291.length co52) ∧ w'.cell? ⟨gb268, 0, none⟩ = some (.int .i64 a1_0) ∧ w'.cell? ⟨gb268, 1, none⟩ = some (.slice A1_1 l1_1.length c1_1)) (ds := []) #[false, false, false, false, false] (by kernel_rfl) rfl rfl ⟨(blk_cell BK294.out 0).trans rfl, (blk_cell BK294.out 1).trans rfl, (blk_cell BK268.out 0).trans rfl, (blk_cell BK268.out 1).trans rfl⟩ (fun hHeld => ?_)
       generalize w83.drew = w87 at HO_285001 HO_290001 HO_295001 HO_301001 HO305 BK267 BK268 BK284 BK289 BK294 BK300 HB hHeld ⊢
       refine take_ (i := 0) (N := some 59) (v := ?_) (a' := ?_) #[true, false, false, false, false] rfl rfl (by kernel_rfl) (fun _ _ _ h => h) (Or.inl ⟨by rfl, ?_⟩) hHeld ?_ ?_
       rotate_left
       ·rintro w' ⟨s0, s1, s2, s3⟩
        go_simp
        with_reducible rfl
       rotate_left; · simp only [Act.put, List.setIfInBounds_toArray, List.set_cons_zero, List.set_cons_succ, i64_w, i32_w]; rfl
       refine take_ (i := 1) (N := some 60) (v := ?_) (a' := ?_) #[true, true, false, false, false] rfl rfl (by kernel_rfl) (fun _ _ _ h => h) (Or.inl ⟨by rfl, ?_⟩) hHeld ?_ ?_
       rotate_left
       ·rintro w' ⟨s0, s1, s2, s3⟩
        go_simp
        with_reducible rfl
       rotate_left; · simp only [Act.put, List.setIfInBounds_toArray, List.set_cons_zero, List.set_cons_succ, i64_w, i32_w]; rfl
       refine one_ (i := 2) (N := some 61) #[true, true, true, false, false] rfl rfl (by kernel_rfl) (by decide) (fun K hK => ?_)
       refine goes_ Try.func25 (by kernel_rfl) rfl #[.agg #[.int .i64 a1_0, .slice A1_1 l1_1.length c1_1]] (by rfl) rfl rfl (by (try simp only [List.map_toArray, List.map_cons, List.map_nil]); first | done | rfl | (simp only [List.length_drop, List.length_take]; rfl)) ?_
       with_reducible refine (laws_toTable.calls kj20 a1_0 _ _ l1_1 t307 t308 _ ?side1 ?side2 A85.out).mono ?_
       (case side1 => repeat (first | exact (Kd.C_below HR1_1.out HB.out) | (with_reducible refine Kd.C_alloc ?_ _) | (with_reducible refine Kd.C_drewN ?_ _) | (with_reducible refine Kd.C_drew ?_)))
       (case side2 => exact HC1_1.out)
       rintro e w88 ⟨v309, rfl, ho0, hb⟩
       refine ⟨_, rfl, ?_⟩
       have n_ := an (Kd.R_elder' (by exact Kd.R_nw HO_285001.out) (Kd.R_base ho0) hb) (an (Kd.R_elder' (by exact Kd.R_nw HO_290001.out) (Kd.R_base ho0) hb) (an (Kd.R_elder' (by exact Kd.R_nw HO_295001.out) (Kd.R_base ho0) hb) (an (Kd.R_elder' (by exact Kd.R_nw HO_301001.out) (Kd.R_base ho0) hb) (an (Kd.R_elder' (by exact Kd.R_nw HO305.out) (Kd.R_base ho0) hb) (an (Kd.R_lower (Kd.R_new' (Kd.R_new' (Kd.R_new' (Kd.R_new' (Kd.R_new' ho0 (Kd.R_lt (by exact Kd.R_nw HO_285001.out))) (Kd.R_lt (by exact Kd.R_nw HO_290001.out))) (Kd.R_lt (by exact Kd.R_nw HO_295001.out))) (Kd.R_lt (by exact Kd.R_nw HO_301001.out))) (Kd.R_lt (by exact Kd.R_nw HO305.out))) (below_size (by exact bel0))) (an (blk_below (blk_nw BK267.out) hb) (an (blk_below (blk_nw BK268.out) hb) (an (blk_below (blk_nw BK284.out) hb) (an (blk_below (blk_nw BK289.out) hb) (an (blk_below (blk_nw BK294.out) hb) (an (blk_below (blk_nw BK300.out) hb) (an (below_step (by exact bel0) hb) (trivial)))))))))))))
       clear HO_285001 HO_290001 HO_295001 HO_301001 HO305 BK267 BK268 BK284 BK289 BK294 BK300 HB
       obtain ⟨HO_285001, HO_290001, HO_295001, HO_301001, HO305, HO310, BK267, BK268, BK284, BK289, BK294, BK300, HB, -⟩ := n_
       (try clear hb); (try clear hb2); (try clear hk); (try clear hi); (try clear ho0)
       obtain ⟨Ao89, co89, eo89⟩ := Kd.R_slice HO310.out
       (first | subst eo89 | (injection eo89 with f1_ f2_ f3_; have f4_ := f1_.symm; have f5_ := f3_.symm; clear f1_ f2_ f3_; subst f4_; subst f5_))
       refine hK.out _ _ ⟨(blk_cell BK294.out 0).trans rfl, (blk_cell BK294.out 1).trans rfl, (blk_cell BK268.out 0).trans rfl, (blk_cell BK268.out 1).trans rfl⟩ (fun hHeld => ?_)
       clear hK K
       refine norm_ (a' := ?_) ?_ ?_
       rotate_left
       ·show Act.put _ (some 61) _ = _
        simp only [Act.put, List.setIfInBounds_toArray, List.set_cons_zero, List.set_cons_succ, i64_w, i32_w]
        rfl
       refine one_ (i := 3) (N := some 62) #[true, true, true, true, false] rfl rfl (by kernel_rfl) (by decide) (fun K hK => ?_)
       refine goes_ Try.func27 (by kernel_rfl) rfl #[.agg #[.int .i64 t290, .slice Ao52 t291.length co52], .agg #[.int .i64 t307, .slice Ao89 t308.length co89]] (by rfl) rfl rfl (by (try simp only [List.map_toArray, List.map_cons, List.map_nil]); first | done | rfl | (simp only [List.length_drop, List.length_take]; rfl)) ?_
       with_reducible refine (laws_eqTable.calls kj20 t290 _ _ t291 t307 _ _ t308 t311 _ ?side1 ?side2 ?side3 ?side4 A86.out).mono ?_
       (case side1 => repeat (first | exact (Kd.R_reads' HO_295001.out).2.2 | (with_reducible refine Kd.C_alloc ?_ _) | (with_reducible refine Kd.C_drewN ?_ _) | (with_reducible refine Kd.C_drew ?_)))
       (case side2 => exact (Kd.R_reads' HO_295001.out).2.1)
       (case side3 => repeat (first | exact (Kd.R_reads' HO310.out).2.2 | (with_reducible refine Kd.C_alloc ?_ _) | (with_reducible refine Kd.C_drewN ?_ _) | (with_reducible refine Kd.C_drew ?_)))
       (case side4 => exact (Kd.R_reads' HO310.out).2.1)
       rintro e w90 ⟨rfl, hb⟩
       refine ⟨_, rfl, ?_⟩
       have n_ := an (Kd.R_below (by exact Kd.R_nw HO_285001.out) hb) (an (Kd.R_below (by exact Kd.R_nw HO_290001.out) hb) (an (Kd.R_below (by exact Kd.R_nw HO_295001.out) hb) (an (Kd.R_below (by exact Kd.R_nw HO_301001.out) hb) (an (Kd.R_below (by exact Kd.R_nw HO305.out) hb) (an (Kd.R_below (by exact Kd.R_nw HO310.out) hb) (an (blk_below (blk_nw BK267.out) hb) (an (blk_below (blk_nw BK268.out) hb) (an (blk_below (blk_nw BK284.out) hb) (an (blk_below (blk_nw BK289.out) hb) (an (blk_below (blk_nw BK294.out) hb) (an (blk_below (blk_nw BK300.out) hb) (an (below_step (by exact bel0) hb) (trivial)))))))))))))
       clear HO_285001 HO_290001 HO_295001 HO_301001 HO305 HO310 BK267 BK268 BK284 BK289 BK294 BK300 HB
       obtain ⟨HO_285001, HO_290001, HO_295001, HO_301001, HO305, HO310, BK267, BK268, BK284, BK289, BK294, BK300, HB, -⟩ := n_
       (try clear hb); (try clear hb2); (try clear hk); (try clear hi)
       refine hK.out _ _ ⟨(blk_cell BK294.out 0).trans rfl, (blk_cell BK294.out 1).trans rfl, (blk_cell BK268.out 0).trans rfl, (blk_cell BK268.out 1).trans rfl⟩ (fun hHeld => ?_)
       clear hK K
       refine norm_ (a' := ?_) ?_ ?_
       rotate_left
       ·show Act.put _ (some 62) _ = _
        simp only [Act.put, List.setIfInBounds_toArray, List.set_cons_zero, List.set_cons_succ, i64_w, i32_w]
        rfl
       refine pure_ (i := 4) (N := some 63) (v := ?_) (a' := ?_) #[true, true, true, true, true] rfl rfl (by kernel_rfl) (fun _ _ _ h => h) (Or.inl ⟨by rfl, ?_⟩) ?_ ?_
       rotate_left; · intro w'; go_simp; with_reducible rfl
       rotate_left; · simp only [Act.put, List.setIfInBounds_toArray, List.set_cons_zero, List.set_cons_succ, i64_w, i32_w]; rfl
       refine done_ (by kernel_rfl) ?_
       replace H := H.out
       by_cases c91 : t311 = true
       ·subst c91; rw [if_pos rfl] at H; replace H := Option.bind_eq_some_iff.mp H
        obtain ⟨⟨t312, t313⟩, A920, H⟩ := H
        replace H : ((laws_markTable.f kj20 t290 t291 t312).bind fun bt314 => (if bt314.1 < 0 then (laws_FnExactMerge.j1 kj20 t283 true a0_0 l0_1 a1_0 l1_1 t279 t280 t295 t296) else ((laws_eqTable.f kj20 t295 t296 t279 t280).bind fun t316 => (if t316 = true then (laws_FnExactMerge.j1 kj20 t283 (t299 != t283) a0_0 l0_1 a1_0 l1_1 t279 t280 t295 t296) else (laws_FnExactMerge.j1 kj20 t283 true a0_0 l0_1 a1_0 l1_1 t279 t280 t295 t296))))) = some r := H
        have A92 := Aside0.mk A920; clear A920; replace H := Option.bind_eq_some_iff.mp H
        obtain ⟨⟨t314, t315⟩, A930, H⟩ := H
        replace H : (if t314 < 0 then (laws_FnExactMerge.j1 kj20 t283 true a0_0 l0_1 a1_0 l1_1 t279 t280 t295 t296) else ((laws_eqTable.f kj20 t295 t296 t279 t280).bind fun t316 => (if t316 = true then (laws_FnExactMerge.j1 kj20 t283 (t299 != t283) a0_0 l0_1 a1_0 l1_1 t279 t280 t295 t296) else (laws_FnExactMerge.j1 kj20 t283 true a0_0 l0_1 a1_0 l1_1 t279 t280 t295 t296)))) = some r := H
        have A93 := Aside0.mk A930; clear A930; have HC94 := Aside0.mk H; clear H; have hnb95 := NB289_267.out; have hnc95 := NB267_289.out; have hnb96 := NB289_268.out; have hnc96 := NB268_289.out; have hnb97 := NB289_284.out; have hnc97 := NB284_289.out; have hnb98 := NB289_294.out; have hnc98 := NB294_289.out; have hnb99 := NB289_300.out; have hnc99 := NB300_289.out; obtain ⟨hcz100_0, hcz100_1⟩ := blkz2 BK289.out; have hfz100_0 := blkf BK289.out
        go_upto_region 21 with (first | ((with_reducible refine gate_callee (f := 28) rfl ?_); refine goesL_ (some 66) rfl rfl Try.func28 (by kernel_rfl) rfl #[.agg #[.int .i64 t285, .slice Ao42 t286.length co42], .int .i64 1] rfl (by (try simp only [List.map_toArray, List.map_cons, List.map_nil]); first | done | rfl | (simp only [List.length_drop, List.length_take]; rfl)) ?_; (with_reducible refine (laws_markTable.calls kj20 t285 (fun k_ => some k_ = (.slice Ao42 t286.length co42 : Value).ownBlock) (.slice Ao42 t286.length co42) t286 1 t312 t313 w _ ?side1 ?side2 A92.out).mono ?_); (case side1 => exact bel0); (case side2 => exact Kd.R_tight rfl HO_290001.out); rintro e w101 ⟨rfl, hy0, hb, hkp⟩; refine ⟨_, rfl, ?_⟩; have n_ := an (Kd.R_mono (ok' := fun k_ => some k_ ≠ (.slice Ao42 t286.length co42 : Value).ownBlock ∧ some k_ ≠ (.slice Ao52 t291.length co52 : Value).ownBlock ∧ some k_ ≠ (.slice Ao62 t296.length co62 : Value).ownBlock ∧ some k_ ≠ (.slice Ao82 t303.length co82 : Value).ownBlock ∧ some k_ ≠ (.slice Ao89 t308.length co89 : Value).ownBlock) (Kd.R_keptB (HO_285001.out) hkp (fun k_ hk_ hs_ => (hk_.1.1.1) hs_)) (fun k_ hk_ => ⟨hk_.1.1.1.1, hk_.1.1.1.2.1, hk_.1.1.1.2.2, hk_.1.1.2, hk_.1.2⟩)) (an (Kd.R_reok rfl hy0 (fun k_ e_ => HO_290001.out.1 k_ e_)) (an (Kd.R_mono (ok' := fun k_ => some k_ ≠ (.slice Ao31 t280.length co31 : Value).ownBlock ∧ some k_ ≠ (.slice Ao42 t286.length co42 : Value).ownBlock ∧ some k_ ≠ (.slice Ao62 t296.length co62 : Value).ownBlock ∧ some k_ ≠ (.slice Ao82 t303.length co82 : Value).ownBlock ∧ some k_ ≠ (.slice Ao89 t308.length co89 : Value).ownBlock) (Kd.R_keptB (HO_295001.out) hkp (fun k_ hk_ hs_ => (hk_.1.1.2.1) hs_)) (fun k_ hk_ => ⟨hk_.1.1.1.1, hk_.1.1.1.2.1, hk_.1.1.1.2.2, hk_.1.1.2, hk_.1.2⟩)) (an (Kd.R_mono (ok' := fun k_ => some k_ ≠ (.slice Ao31 t280.length co31 : Value).ownBlock ∧ some k_ ≠ (.slice Ao42 t286.length co42 : Value).ownBlock ∧ some k_ ≠ (.slice Ao52 t291.length co52 : Value).ownBlock ∧ some k_ ≠ (.slice Ao82 t303.length co82 : Value).ownBlock ∧ some k_ ≠ (.slice Ao89 t308.length co89 : Value).ownBlock) (Kd.R_keptB (HO_301001.out) hkp (fun k_ hk_ hs_ => (hk_.1.1.2.1) hs_)) (fun k_ hk_ => ⟨hk_.1.1.1.1, hk_.1.1.1.2.1, hk_.1.1.1.2.2, hk_.1.1.2, hk_.1.2⟩)) (an (blk_kept (by exact blk_nw BK267.out) hkp (fun hs_ => (fun e_ => (Kd.R_ne HO_290001.out BK267.out (by decide)) e_) hs_)) (an (blk_kept (by exact blk_nw BK268.out) hkp (fun hs_ => (fun e_ => (Kd.R_ne HO_290001.out BK268.out (by decide)) e_) hs_)) (an (blk_kept (by exact blk_nw BK284.out) hkp (fun hs_ => (fun e_ => (Kd.R_ne HO_290001.out BK284.out (by decide)) e_) hs_)) (an (blk_kept (by exact blk_nw BK289.out) hkp (fun hs_ => (fun e_ => (Kd.R_ne HO_290001.out BK289.out (by decide)) e_) hs_)) (an (blk_kept (by exact blk_nw BK294.out) hkp (fun hs_ => (fun e_ => (Kd.R_ne HO_290001.out BK294.out (by decide)) e_) hs_)) (an (blk_kept (by exact blk_nw BK300.out) hkp (fun hs_ => (fun e_ => (Kd.R_ne HO_290001.out BK300.out (by decide)) e_) hs_)) (an (Kd.R_mono (ok' := fun k_ => some k_ ≠ (.slice Ao31 t280.length co31 : Value).ownBlock ∧ some k_ ≠ (.slice Ao42 t286.length co42 : Value).ownBlock ∧ some k_ ≠ (.slice Ao52 t291.length co52 : Value).ownBlock ∧ some k_ ≠ (.slice Ao62 t296.length co62 : Value).ownBlock ∧ some k_ ≠ (.slice Ao89 t308.length co89 : Value).ownBlock) (Kd.R_keptB (HO305.out) hkp (fun k_ hk_ hs_ => (hk_.1.1.1.2) hs_)) (fun k_ hk_ => ⟨hk_.1.1.1.1.1.2, hk_.1.1.1.1.2, hk_.1.1.1.2, hk_.1.1.2, hk_.1.2⟩)) (an (Kd.R_mono (ok' := fun k_ => some k_ ≠ (.slice Ao31 t280.length co31 : Value).ownBlock ∧ some k_ ≠ (.slice Ao42 t286.length co42 : Value).ownBlock ∧ some k_ ≠ (.slice Ao52 t291.length co52 : Value).ownBlock ∧ some k_ ≠ (.slice Ao62 t296.length co62 : Value).ownBlock ∧ some k_ ≠ (.slice Ao82 t303.length co82 : Value).ownBlock) (Kd.R_keptB (HO310.out) hkp (fun k_ hk_ hs_ => (hk_.1.1.1.2) hs_)) (fun k_ hk_ => ⟨hk_.1.1.1.1.1.2, hk_.1.1.1.1.2, hk_.1.1.1.2, hk_.1.1.2, hk_.1.2⟩)) (an (hb) (trivial))))))))))))); clear HO_285001 HO_290001 HO_295001 HO_301001 BK267 BK268 BK284 BK289 BK294 BK300 HO305 HO310 HB; obtain ⟨HO_285001, HO_290001, HO_295001, HO_301001, BK267, BK268, BK284, BK289, BK294, BK300, HO305, HO310, HB, -⟩ := n_; (try clear hb); (try clear hkp); (try clear hy0); have hnb102 := NB294_267.out; have hnc102 := NB267_294.out; have hnb103 := NB294_268.out; have hnc103 := NB268_294.out; have hnb104 := NB294_284.out; have hnc104 := NB284_294.out; have hnb105 := NB294_300.out; have hnc105 := NB300_294.out; obtain ⟨hcz106_0, hcz106_1⟩ := blkz2 BK294.out; have hfz106_0 := blkf BK294.out) | ((with_reducible refine gate_callee (f := 28) rfl ?_); refine goesL_ (some 69) rfl rfl Try.func28 (by kernel_rfl) rfl #[.agg #[.int .i64 t290, .slice Ao52 t291.length co52], .int .i64 t312] rfl (by (try simp only [List.map_toArray, List.map_cons, List.map_nil]); first | done | rfl | (simp only [List.length_drop, List.length_take]; rfl)) ?_; (with_reducible refine (laws_markTable.calls kj20 t290 (fun k_ => some k_ = (.slice Ao52 t291.length co52 : Value).ownBlock) (.slice Ao52 t291.length co52) t291 t312 t314 t315 w _ ?side1 ?side2 A93.out).mono ?_); (case side1 => exact bel0); (case side2 => exact Kd.R_tight rfl HO_295001.out); rintro e w107 ⟨rfl, hy0, hb, hkp⟩; refine ⟨_, rfl, ?_⟩; have n_ := an (Kd.R_mono (ok' := fun k_ => some k_ ≠ (.slice Ao42 t286.length co42 : Value).ownBlock ∧ some k_ ≠ (.slice Ao52 t291.length co52 : Value).ownBlock ∧ some k_ ≠ (.slice Ao62 t296.length co62 : Value).ownBlock ∧ some k_ ≠ (.slice Ao82 t303.length co82 : Value).ownBlock ∧ some k_ ≠ (.slice Ao89 t308.length co89 : Value).ownBlock) (Kd.R_keptB (HO_285001.out) hkp (fun k_ hk_ hs_ => (hk_.2.1) hs_)) (fun k_ hk_ => ⟨hk_.1.1, hk_.1.2.1, hk_.1.2.2.1, hk_.1.2.2.2.1, hk_.1.2.2.2.2⟩)) (an (Kd.R_mono (ok' := fun k_ => some k_ ≠ (.slice Ao31 t280.length co31 : Value).ownBlock ∧ some k_ ≠ (.slice Ao52 t291.length co52 : Value).ownBlock ∧ some k_ ≠ (.slice Ao62 t296.length co62 : Value).ownBlock ∧ some k_ ≠ (.slice Ao82 t303.length co82 : Value).ownBlock ∧ some k_ ≠ (.slice Ao89 t308.length co89 : Value).ownBlock) (Kd.R_keptB (HO_290001.out) hkp (fun k_ hk_ hs_ => (hk_.1.1.2.1) hs_)) (fun k_ hk_ => ⟨hk_.1.1.1.1, hk_.1.1.1.2.1, hk_.1.1.1.2.2, hk_.1.1.2, hk_.1.2⟩)) (an (Kd.R_reok rfl hy0 (fun k_ e_ => HO_295001.out.1 k_ e_)) (an (Kd.R_mono (ok' := fun k_ => some k_ ≠ (.slice Ao31 t280.length co31 : Value).ownBlock ∧ some k_ ≠ (.slice Ao42 t286.length co42 : Value).ownBlock ∧ some k_ ≠ (.slice Ao52 t291.length co52 : Value).ownBlock ∧ some k_ ≠ (.slice Ao82 t303.length co82 : Value).ownBlock ∧ some k_ ≠ (.slice Ao89 t308.length co89 : Value).ownBlock) (Kd.R_keptB (HO_301001.out) hkp (fun k_ hk_ hs_ => (hk_.2.2.1) hs_)) (fun k_ hk_ => ⟨hk_.1.1, hk_.1.2.1, hk_.1.2.2.1, hk_.1.2.2.2.1, hk_.1.2.2.2.2⟩)) (an (blk_kept (by exact blk_nw BK267.out) hkp (fun hs_ => (fun e_ => (Kd.R_ne HO_295001.out BK267.out (by decide)) e_) hs_)) (an (blk_kept (by exact blk_nw BK268.out) hkp (fun hs_ => (fun e_ => (Kd.R_ne HO_295001.out BK268.out (by decide)) e_) hs_)) (an (blk_kept (by exact blk_nw BK284.out) hkp (fun hs_ => (fun e_ => (Kd.R_ne HO_295001.out BK284.out (by decide)) e_) hs_)) (an (blk_kept (by exact blk_nw BK289.out) hkp (fun hs_ => (fun e_ => (Kd.R_ne HO_295001.out BK289.out (by decide)) e_) hs_)) (an (blk_kept (by exact blk_nw BK294.out) hkp (fun hs_ => (fun e_ => (Kd.R_ne HO_295001.out BK294.out (by decide)) e_) hs_)) (an (blk_kept (by exact blk_nw BK300.out) hkp (fun hs_ => (fun e_ => (Kd.R_ne HO_295001.out BK300.out (by decide)) e_) hs_)) (an (Kd.R_mono (ok' := fun k_ => some k_ ≠ (.slice Ao31 t280.length co31 : Value).ownBlock ∧ some k_ ≠ (.slice Ao42 t286.length co42 : Value).ownBlock ∧ some k_ ≠ (.slice Ao52 t291.length co52 : Value).ownBlock ∧ some k_ ≠ (.slice Ao62 t296.length co62 : Value).ownBlock ∧ some k_ ≠ (.slice Ao89 t308.length co89 : Value).ownBlock) (Kd.R_keptB (HO305.out) hkp (fun k_ hk_ hs_ => (hk_.2.2.1) hs_)) (fun k_ hk_ => ⟨hk_.1.1, hk_.1.2.1, hk_.1.2.2.1, hk_.1.2.2.2.1, hk_.1.2.2.2.2⟩)) (an (Kd.R_mono (ok' := fun k_ => some k_ ≠ (.slice Ao31 t280.length co31 : Value).ownBlock ∧ some k_ ≠ (.slice Ao42 t286.length co42 : Value).ownBlock ∧ some k_ ≠ (.slice Ao52 t291.length co52 : Value).ownBlock ∧ some k_ ≠ (.slice Ao62 t296.length co62 : Value).ownBlock ∧ some k_ ≠ (.slice Ao82 t303.length co82 : Value).ownBlock) (Kd.R_keptB (HO310.out) hkp (fun k_ hk_ hs_ => (hk_.2.2.1) hs_)) (fun k_ hk_ => ⟨hk_.1.1, hk_.1.2.1, hk_.1.2.2.1, hk_.1.2.2.2.1, hk_.1.2.2.2.2⟩)) (an (hb) (trivial))))))))))))); clear HO_285001 HO_290001 HO_295001 HO_301001 BK267 BK268 BK284 BK289 BK294 BK300 HO305 HO310 HB; obtain ⟨HO_285001, HO_290001, HO_295001, HO_301001, BK267, BK268, BK284, BK289, BK294, BK300, HO305, HO310, HB, -⟩ := n_; (try clear hb); (try clear hkp); (try clear hy0)))
        (try simp only [Act.put, List.setIfInBounds_toArray, List.set_cons_zero, List.set_cons_succ])
        go_cut [82] (fun v82 wc => ∃ (kq : Nat) (x82_93 : Bool), v82 = .bool x82_93 ∧ Aside0 (laws_FnExactMerge.j1 kq t283 x82_93 a0_0 l0_1 a1_0 l1_1 t279 t280 t295 t296 = some r) ∧ Aside0 (kq ≤ kj20) ∧ Aside0 (Kd.R k82 82 wc w.heap.size (fun k_ => some k_ ≠ ((.slice Ao42 t286.length co42) : Value).ownBlock ∧ some k_ ≠ ((.slice Ao52 t291.length co52) : Value).ownBlock ∧ some k_ ≠ ((.slice Ao62 t296.length co62) : Value).ownBlock) (.slice Ao31 t280.length co31) t280) ∧ Aside0 (Kd.R k82 82 wc w.heap.size (fun k_ => some k_ ≠ ((.slice Ao31 t280.length co31) : Value).ownBlock ∧ some k_ ≠ ((.slice Ao52 t291.length co52) : Value).ownBlock ∧ some k_ ≠ ((.slice Ao62 t296.length co62) : Value).ownBlock) (.slice Ao42 t286.length co42) t313) ∧ Aside0 (Kd.R k82 82 wc w.heap.size (fun k_ => some k_ ≠ ((.slice Ao31 t280.length co31) : Value).ownBlock ∧ some k_ ≠ ((.slice Ao42 t286.length co42) : Value).ownBlock ∧ some k_ ≠ ((.slice Ao62 t296.length co62) : Value).ownBlock) (.slice Ao52 t291.length co52) t315) ∧ Aside0 (Kd.R k82 82 wc w.heap.size (fun k_ => some k_ ≠ ((.slice Ao31 t280.length co31) : Value).ownBlock ∧ some k_ ≠ ((.slice Ao42 t286.length co42) : Value).ownBlock ∧ some k_ ≠ ((.slice Ao52 t291.length co52) : Value).ownBlock) (.slice Ao62 t296.length co62) t296) ∧ Aside0 (wc.heap[gb267]? = some (.cells #[.int .i64 a0_0, (.slice A0_1 l0_1.length c0_1)] 37 (0, 0))) ∧ Aside0 (wc.heap[gb268]? = some (.cells #[.int .i64 a1_0, (.slice A1_1 l1_1.length c1_1)] 37 (0, 0))) ∧ Aside0 (wc.heap[gb284]? = some (.cells #[.int .i64 t279, (.slice Ao31 t280.length co31)] 41 (0, 0))) ∧ Aside0 (wc.heap[gb289]? = some (.cells #[.int .i64 t285, (.slice Ao42 t286.length co42)] 41 (0, 0))) ∧ Aside0 (wc.heap[gb294]? = some (.cells #[.int .i64 t290, (.slice Ao52 t291.length co52)] 41 (0, 0))) ∧ Aside0 (wc.heap[gb300]? = some (.cells #[.int .i64 t295, (.slice Ao62 t296.length co62)] 41 (0, 0))) ∧ Aside0 (Below w.heap.size w wc))
        case first =>
         have H := HC94.out; clear HC94
         by_cases c108 : t314 < 0
         ·rw [if_pos c108] at H; have c108b0 : decide (t314 < 0) = true := decide_eq_true c108; clear c108; (try simp only [c108b0])
          (first | rw [c108b0] | (simp only [i64_w, i32_w]; rw [c108b0]) | skip)
          have H' := Aside0.mk H
          clear H
          go_wp2
          go_meet
          case rel => exact ⟨_, (true), (by first | rfl | (simp; done) | (simp [*]; done)), H', ⟨by have := HJ20.out; first | omega | exact Nat.le_refl _⟩, ⟨by exact Kd.R_nw (Kd.R_mono HO_285001.out (fun _ hk => ⟨hk.1, ⟨hk.2.1, hk.2.2.1⟩⟩))⟩, ⟨by exact Kd.R_nw (Kd.R_mono HO_290001.out (fun _ hk => ⟨hk.1, ⟨hk.2.1, hk.2.2.1⟩⟩))⟩, ⟨by exact Kd.R_nw (Kd.R_mono HO_295001.out (fun _ hk => ⟨hk.1, ⟨hk.2.1, hk.2.2.1⟩⟩))⟩, ⟨by exact Kd.R_nw (Kd.R_mono HO_301001.out (fun _ hk => ⟨hk.1, ⟨hk.2.1, hk.2.2.1⟩⟩))⟩, ⟨by exact blk_nw BK267.out⟩, ⟨by exact blk_nw BK268.out⟩, ⟨by exact blk_nw BK284.out⟩, ⟨by exact blk_nw BK289.out⟩, ⟨by exact blk_nw BK294.out⟩, ⟨by exact blk_nw BK300.out⟩, ⟨by exact bel0⟩⟩
         ·rw [if_neg c108] at H; have c108b0 : decide (t314 < 0) = false := decide_eq_false c108; clear c108; (try simp only [c108b0])
          (first | rw [c108b0] | (simp only [i64_w, i32_w]; rw [c108b0]) | skip)
          replace H := Option.bind_eq_some_iff.mp H; obtain ⟨t316, A1090, H⟩ := H; have A109 := Aside0.mk A1090; clear A1090; have hnb110 := NB300_267.out; have hnc110 := NB267_300.out; have hnb111 := NB300_268.out; have hnc111 := NB268_300.out; have hnb112 := NB300_284.out; have hnc112 := NB284_300.out; have hnb113 := NB300_289.out; have hnc113 := NB289_300.out; have hnb114 := NB300_294.out; have hnc114 := NB294_300.out; obtain ⟨hcz115_0, hcz115_1⟩ := blkz2 BK300.out; have hfz115_0 := blkf BK300.out; have hnb116 := NB284_267.out; have hnc116 := NB267_284.out; have hnb117 := NB284_268.out; have hnc117 := NB268_284.out; have hnb118 := NB284_289.out; have hnc118 := NB289_284.out; have hnb119 := NB284_294.out; have hnc119 := NB294_284.out; obtain ⟨hcz120_0, hcz120_1⟩ := blkz2 BK284.out; have hfz120_0 := blkf BK284.out
          replace H := Aside0.mk H
          go_wp2_with (first | (go_at_call 27; (with_reducible refine (laws_eqTable.calls kj20 t295 _ _ t296 t279 _ _ t280 t316 _ ?side1 ?side2 ?side3 ?side4 A109.out).mono ?_); (case side1 => repeat (first | exact (Kd.R_reads' HO_301001.out).2.2 | (with_reducible refine Kd.C_alloc ?_ _) | (with_reducible refine Kd.C_drewN ?_ _) | (with_reducible refine Kd.C_drew ?_))); (case side2 => exact (Kd.R_reads' HO_301001.out).2.1); (case side3 => repeat (first | exact (Kd.R_reads' HO_285001.out).2.2 | (with_reducible refine Kd.C_alloc ?_ _) | (with_reducible refine Kd.C_drewN ?_ _) | (with_reducible refine Kd.C_drew ?_))); (case side4 => exact (Kd.R_reads' HO_285001.out).2.1); rintro e w121 ⟨rfl, hb⟩; have n_ := an (Kd.R_below (by exact Kd.R_nw HO_285001.out) hb) (an (Kd.R_below (by exact Kd.R_nw HO_290001.out) hb) (an (Kd.R_below (by exact Kd.R_nw HO_295001.out) hb) (an (Kd.R_below (by exact Kd.R_nw HO_301001.out) hb) (an (Kd.R_below (by exact Kd.R_nw HO305.out) hb) (an (Kd.R_below (by exact Kd.R_nw HO310.out) hb) (an (blk_below (blk_nw BK267.out) hb) (an (blk_below (blk_nw BK268.out) hb) (an (blk_below (blk_nw BK284.out) hb) (an (blk_below (blk_nw BK289.out) hb) (an (blk_below (blk_nw BK294.out) hb) (an (blk_below (blk_nw BK300.out) hb) (an (below_step (by exact bel0) hb) (trivial))))))))))))); clear HO_285001 HO_290001 HO_295001 HO_301001 HO305 HO310 BK267 BK268 BK284 BK289 BK294 BK300 HB; obtain ⟨HO_285001, HO_290001, HO_295001, HO_301001, HO305, HO310, BK267, BK268, BK284, BK289, BK294, BK300, HB, -⟩ := n_; (try clear hb); (try clear hb2); (try clear hk); (try clear hi); refine Stop.out ?_))
          refine Stop.mk ?_
          replace H := H.out
          by_cases c122 : t316 = true
          ·subst c122; rw [if_pos rfl] at H
           have H' := Aside0.mk H
           clear H
           go_wp2
           go_meet
           case rel => exact ⟨_, ((t299 != t283)), (by first | rfl | (simp; done) | (simp [*]; done)), H', ⟨by have := HJ20.out; first | omega | exact Nat.le_refl _⟩, ⟨by exact Kd.R_nw (Kd.R_mono HO_285001.out (fun _ hk => ⟨hk.1, ⟨hk.2.1, hk.2.2.1⟩⟩))⟩, ⟨by exact Kd.R_nw (Kd.R_mono HO_290001.out (fun _ hk => ⟨hk.1, ⟨hk.2.1, hk.2.2.1⟩⟩))⟩, ⟨by exact Kd.R_nw (Kd.R_mono HO_295001.out (fun _ hk => ⟨hk.1, ⟨hk.2.1, hk.2.2.1⟩⟩))⟩, ⟨by exact Kd.R_nw (Kd.R_mono HO_301001.out (fun _ hk => ⟨hk.1, ⟨hk.2.1, hk.2.2.1⟩⟩))⟩, ⟨by exact blk_nw BK267.out⟩, ⟨by exact blk_nw BK268.out⟩, ⟨by exact blk_nw BK284.out⟩, ⟨by exact blk_nw BK289.out⟩, ⟨by exact blk_nw BK294.out⟩, ⟨by exact blk_nw BK300.out⟩, ⟨by exact bel0⟩⟩
          ·replace c122 := Bool.eq_false_iff.mpr c122
           subst c122
           rw [if_neg (show ¬ (false = true) by decide)] at H
           have H' := Aside0.mk H
           clear H
           go_wp2
           go_meet
           case rel => exact ⟨_, (true), (by first | rfl | (simp; done) | (simp [*]; done)), H', ⟨by have := HJ20.out; first | omega | exact Nat.le_refl _⟩, ⟨by exact Kd.R_nw (Kd.R_mono HO_285001.out (fun _ hk => ⟨hk.1, ⟨hk.2.1, hk.2.2.1⟩⟩))⟩, ⟨by exact Kd.R_nw (Kd.R_mono HO_290001.out (fun _ hk => ⟨hk.1, ⟨hk.2.1, hk.2.2.1⟩⟩))⟩, ⟨by exact Kd.R_nw (Kd.R_mono HO_295001.out (fun _ hk => ⟨hk.1, ⟨hk.2.1, hk.2.2.1⟩⟩))⟩, ⟨by exact Kd.R_nw (Kd.R_mono HO_301001.out (fun _ hk => ⟨hk.1, ⟨hk.2.1, hk.2.2.1⟩⟩))⟩, ⟨by exact blk_nw BK267.out⟩, ⟨by exact blk_nw BK268.out⟩, ⟨by exact blk_nw BK284.out⟩, ⟨by exact blk_nw BK289.out⟩, ⟨by exact blk_nw BK294.out⟩, ⟨by exact blk_nw BK300.out⟩, ⟨by exact bel0⟩⟩
        case rest =>
         clear HC94; try clear c1; try clear c2; try clear p2; try clear c3; try clear c4; try clear c5; try clear c6; try clear c7; try clear c8; try clear c9; try clear c10; try clear c11; try clear c12; try clear c14; try clear c14b0; try clear c23; try clear c25; try clear c27; try clear c28; try clear c33; try clear c34; try clear c38; try clear c39; try clear c40; try clear c43; try clear c47; try clear c48; try clear c49; try clear c50; try clear c54; try clear c55; try clear c56; try clear c57; try clear c58; try clear c59; try clear c60; try clear c64; try clear c65; try clear c66; try clear c67; try clear c68; try clear c70; try clear c71; try clear c72; try clear c73; try clear c76; try clear c77; try clear c84; try clear c91; try clear c95; try clear c96; try clear c97; try clear c98; try clear c99; try clear c102; try clear c103; try clear c104; try clear c105; try clear c108; try clear c108b0; try clear c110; try clear c111; try clear c112; try clear c113; try clear c114; try clear c116; try clear c117; try clear c118; try clear c119; try clear c122; try clear hcz100_0; try clear hcz100_1; try clear hcz106_0; try clear hcz106_1; try clear hcz115_0; try clear hcz115_1; try clear hcz120_0; try clear hcz120_1; try clear hcz12_1; try clear hcz35_0; try clear hcz35_1; try clear hcz41_0; try clear hcz41_1; try clear hcz44_0; try clear hcz44_1; try clear hcz51_0; try clear hcz51_1; try clear hcz53_0; try clear hcz53_1; try clear hcz61_0; try clear hcz61_1; try clear hcz69_0; try clear hcz69_1; try clear hcz74_0; try clear hcz74_1; try clear hfz100_0; try clear hfz100_1; try clear hfz106_0; try clear hfz106_1; try clear hfz115_0; try clear hfz115_1; try clear hfz120_0; try clear hfz120_1; try clear hfz12_0; try clear hfz12_1; try clear hfz35_0; try clear hfz35_1; try clear hfz41_0; try clear hfz41_1; try clear hfz44_0; try clear hfz44_1; try clear hfz51_0; try clear hfz51_1; try clear hfz53_0; try clear hfz53_1; try clear hfz61_0; try clear hfz61_1; try clear hfz69_0; try clear hfz69_1; try clear hfz74_0; try clear hfz74_1; try clear p2
         obtain ⟨kq, x82_93, rfl, HA, HJ93, HO_285001, HO_290001, HO_295001, HO_301001, BK267, BK268, BK284, BK289, BK294, BK300, HB⟩ := hcut
         have hl290001_93 := (Kd.R_reads' HO_290001.out).1
         rw [hl290001_93] at HO_290001
         (try simp only [hl290001_93])
         (try simp only [hl290001_93] at BK267)
         (try simp only [hl290001_93] at BK268)
         (try simp only [hl290001_93] at BK284)
         (try simp only [hl290001_93] at BK289)
         (try simp only [hl290001_93] at BK294)
         (try simp only [hl290001_93] at BK300)
         (try simp only [hl290001_93] at HO_285001)
         (try simp only [hl290001_93] at HO_295001)
         (try simp only [hl290001_93] at HO_301001)
         have hl295001_93 := (Kd.R_reads' HO_295001.out).1
         rw [hl295001_93] at HO_295001
         (try simp only [hl295001_93])
         (try simp only [hl295001_93] at BK267)
         (try simp only [hl295001_93] at BK268)
         (try simp only [hl295001_93] at BK284)
         (try simp only [hl295001_93] at BK289)
         (try simp only [hl295001_93] at BK294)
         (try simp only [hl295001_93] at BK300)
         (try simp only [hl295001_93] at HO_285001)
         (try simp only [hl295001_93] at HO_290001)
         (try simp only [hl295001_93] at HO_301001)
         cases kq with
         | zero => exact absurd HA.out (by simp [laws_FnExactMerge.j1])
         | succ kj93 =>
          have H := HA.out; clear HA
          simp only [laws_FnExactMerge.j1] at H
          by_cases c123 : x82_93 = true
          ·subst c123; rw [if_pos rfl] at H
           obtain rfl := Option.some.inj H
           go_wp2
           go_ret
           exact ⟨by first | rfl | (simp [errW_none, errW_some] <;> rfl) | (simp [*, errW_none, errW_some] <;> rfl), by exact bel0⟩
          ·replace c123 := Bool.eq_false_iff.mpr c123
           subst c123
           rw [if_neg (show ¬ (false = true) by decide)] at H
           replace H := Option.bind_eq_some_iff.mp H
           obtain ⟨⟨t317, t318⟩, A1240, H⟩ := H
           replace H : ((laws_heldTable.f kj93 t295 t318 1).bind fun t319 => (if t319 < 0 then (some false) else (if t319 = t317 then ((laws_toTable.f kj93 a0_0 l0_1).bind fun bt320 => ((laws_toTable.f kj93 a1_0 l1_1).bind fun bt324 => ((impl_Merge.f kj93 bt320.1 bt320.2 bt324.1 bt324.2).bind fun bt328 => ((laws_eqTable.f kj93 bt328.1 bt328.2.1 t279 t280).bind fun t334 => (if t334 = true then (laws_FnExactMerge.j2 kj93 t317 (bt328.2.2 != t283) t295 t318) else (laws_FnExactMerge.j2 kj93 t317 true t295 t318)))))) else (some false)))) = some r := H
           have A124 := Aside0.mk A1240; clear A1240; replace H := Option.bind_eq_some_iff.mp H; obtain ⟨t319, A1250, H⟩ := H; have A125 := Aside0.mk A1250; clear A1250; have hnb126 := NB300_267.out; have hnc126 := NB267_300.out; have hnb127 := NB300_268.out; have hnc127 := NB268_300.out; have hnb128 := NB300_284.out; have hnc128 := NB284_300.out; have hnb129 := NB300_289.out; have hnc129 := NB289_300.out; have hnb130 := NB300_294.out; have hnc130 := NB294_300.out; obtain ⟨hcz131_0, hcz131_1⟩ := blkz2 BK300.out; have hfz131_0 := blkf BK300.out
           replace H := Aside0.mk H
           go_wp2_with (first | ((with_reducible refine gate_callee (f := 28) rfl ?_); refine goesL_ (some 85) rfl rfl Try.func28 (by kernel_rfl) rfl #[.agg #[.int .i64 t295, .slice Ao62 t296.length co62], .int .i64 1] rfl (by (try simp only [List.map_toArray, List.map_cons, List.map_nil]); first | done | rfl | (simp only [List.length_drop, List.length_take]; rfl)) ?_; (with_reducible refine (laws_markTable.calls kj93 t295 (fun k_ => some k_ = (.slice Ao62 t296.length co62 : Value).ownBlock) (.slice Ao62 t296.length co62) t296 1 t317 t318 w _ ?side1 ?side2 A124.out).mono ?_); (case side1 => exact bel0); (case side2 => exact Kd.R_tight rfl HO_301001.out); rintro e w132 ⟨rfl, hy0, hb, hkp⟩; refine ⟨_, rfl, ?_⟩; have n_ := an (Kd.R_mono (ok' := fun k_ => some k_ ≠ (.slice Ao42 t313.length co42 : Value).ownBlock ∧ some k_ ≠ (.slice Ao52 t315.length co52 : Value).ownBlock ∧ some k_ ≠ (.slice Ao62 t296.length co62 : Value).ownBlock) (Kd.R_keptB (HO_285001.out) hkp (fun k_ hk_ hs_ => (hk_.2.2) hs_)) (fun k_ hk_ => ⟨hk_.1.1, hk_.1.2.1, hk_.1.2.2⟩)) (an (Kd.R_mono (ok' := fun k_ => some k_ ≠ (.slice Ao31 t280.length co31 : Value).ownBlock ∧ some k_ ≠ (.slice Ao52 t315.length co52 : Value).ownBlock ∧ some k_ ≠ (.slice Ao62 t296.length co62 : Value).ownBlock) (Kd.R_keptB (HO_290001.out) hkp (fun k_ hk_ hs_ => (hk_.2.2) hs_)) (fun k_ hk_ => ⟨hk_.1.1, hk_.1.2.1, hk_.1.2.2⟩)) (an (Kd.R_mono (ok' := fun k_ => some k_ ≠ (.slice Ao31 t280.length co31 : Value).ownBlock ∧ some k_ ≠ (.slice Ao42 t313.length co42 : Value).ownBlock ∧ some k_ ≠ (.slice Ao62 t296.length co62 : Value).ownBlock) (Kd.R_keptB (HO_295001.out) hkp (fun k_ hk_ hs_ => (hk_.2.2) hs_)) (fun k_ hk_ => ⟨hk_.1.1, hk_.1.2.1, hk_.1.2.2⟩)) (an (Kd.R_reok rfl hy0 (fun k_ e_ => HO_301001.out.1 k_ e_)) (an (blk_kept (by exact blk_nw BK267.out) hkp (fun hs_ => (fun e_ => (Kd.R_ne HO_301001.out BK267.out (by decide)) e_) hs_)) (an (blk_kept (by exact blk_nw BK268.out) hkp (fun hs_ => (fun e_ => (Kd.R_ne HO_301001.out BK268.out (by decide)) e_) hs_)) (an (blk_kept (by exact blk_nw BK284.out) hkp (fun hs_ => (fun e_ => (Kd.R_ne HO_301001.out BK284.out (by decide)) e_) hs_)) (an (blk_kept (by exact blk_nw BK289.out) hkp (fun hs_ => (fun e_ => (Kd.R_ne HO_301001.out BK289.out (by decide)) e_) hs_)) (an (blk_kept (by exact blk_nw BK294.out) hkp (fun hs_ => (fun e_ => (Kd.R_ne HO_301001.out BK294.out (by decide)) e_) hs_)) (an (blk_kept (by exact blk_nw BK300.out) hkp (fun hs_ => (fun e_ => (Kd.R_ne HO_301001.out BK300.out (by decide)) e_) hs_)) (an (hb) (trivial))))))))))); clear HO_285001 HO_290001 HO_295001 HO_301001 BK267 BK268 BK284 BK289 BK294 BK300 HB; obtain ⟨HO_285001, HO_290001, HO_295001, HO_301001, BK267, BK268, BK284, BK289, BK294, BK300, HB, -⟩ := n_; (try clear hb); (try clear hkp); (try clear hy0); obtain ⟨hcz133_0, hcz133_1⟩ := blkz2 BK300.out; have hfz133_0 := blkf BK300.out) | ((with_reducible refine gate_callee (f := 29) rfl ?_); refine goesL_ (some 88) rfl rfl Try.func29 (by kernel_rfl) rfl #[.agg #[.int .i64 t295, .slice Ao62 t318.length co62], .int .i64 1] rfl (by (try simp only [List.map_toArray, List.map_cons, List.map_nil]); first | done | (rw [show t318.length = t296.length from (Kd.R_reads' HO_301001.out).1.symm] <;> rfl) | rfl | (simp only [List.length_drop, List.length_take]; rfl)) ?_; (with_reducible refine (laws_heldTable.calls kj93 t295 _ _ t318 1 t319 _ ?side1 ?side2 A125.out).mono ?_); (case side1 => repeat (first | exact (Kd.R_reads' HO_301001.out).2.2 | (with_reducible refine Kd.C_alloc ?_ _) | (with_reducible refine Kd.C_drewN ?_ _) | (with_reducible refine Kd.C_drew ?_))); (case side2 => rw [show t318.length = t296.length from (Kd.R_reads' HO_301001.out).1.symm]; exact (Kd.R_reads' HO_301001.out).2.1); rintro e w134 ⟨rfl, hb⟩; refine ⟨_, rfl, ?_⟩; have n_ := an (Kd.R_below (by exact Kd.R_nw HO_285001.out) hb) (an (Kd.R_below (by exact Kd.R_nw HO_290001.out) hb) (an (Kd.R_below (by exact Kd.R_nw HO_295001.out) hb) (an (Kd.R_below (by exact Kd.R_nw HO_301001.out) hb) (an (blk_below (blk_nw BK267.out) hb) (an (blk_below (blk_nw BK268.out) hb) (an (blk_below (blk_nw BK284.out) hb) (an (blk_below (blk_nw BK289.out) hb) (an (blk_below (blk_nw BK294.out) hb) (an (blk_below (blk_nw BK300.out) hb) (an (below_step (by exact bel0) hb) (trivial))))))))))); clear HO_285001 HO_290001 HO_295001 HO_301001 BK267 BK268 BK284 BK289 BK294 BK300 HB; obtain ⟨HO_285001, HO_290001, HO_295001, HO_301001, BK267, BK268, BK284, BK289, BK294, BK300, HB, -⟩ := n_; (try clear hb); (try clear hb2); (try clear hk); (try clear hi); refine Stop.out ?_))
           refine Stop.mk ?_
           replace H := H.out
           by_cases c135 : t319 < 0
           ·rw [if_pos c135] at H; have c135b0 : decide (t319 < 0) = true := decide_eq_true c135; clear c135; (try simp only [c135b0])
            obtain rfl := Option.some.inj H
            go_wp2
            go_ret
            exact ⟨by first | rfl | (simp [errW_none, errW_some] <;> rfl) | (simp [*, errW_none, errW_some] <;> rfl), by exact bel0⟩
           ·rw [if_neg c135] at H; have c135b0 : decide (t319 < 0) = false := decide_eq_false c135; clear c135; (try simp only [c135b0])
            by_cases c136 : t319 = t317
            ·rw [if_pos c136] at H; have c136b0 : (t319 == t317) = true := beq_iff_eq.mpr c136; have c136b1 : (t319 != t317) = false := bne_eq_false_iff_eq.mpr c136; clear c136; replace H := Option.bind_eq_some_iff.mp H
             obtain ⟨⟨t320, t321⟩, A1370, H⟩ := H
             replace H : ((laws_toTable.f kj93 a1_0 l1_1).bind fun bt324 => ((impl_Merge.f kj93 t320 t321 bt324.1 bt324.2).bind fun bt328 => ((laws_eqTable.f kj93 bt328.1 bt328.2.1 t279 t280).bind fun t334 => (if t334 = true then (laws_FnExactMerge.j2 kj93 t317 (bt328.2.2 != t283) t295 t318) else (laws_FnExactMerge.j2 kj93 t317 true t295 t318))))) = some r := H
             have A137 := Aside0.mk A1370; clear A1370; replace H := Option.bind_eq_some_iff.mp H
             obtain ⟨⟨t324, t325⟩, A1380, H⟩ := H
             replace H : ((impl_Merge.f kj93 t320 t321 t324 t325).bind fun bt328 => ((laws_eqTable.f kj93 bt328.1 bt328.2.1 t279 t280).bind fun t334 => (if t334 = true then (laws_FnExactMerge.j2 kj93 t317 (bt328.2.2 != t283) t295 t318) else (laws_FnExactMerge.j2 kj93 t317 true t295 t318)))) = some r := H
             have A138 := Aside0.mk A1380; clear A1380; replace H := Option.bind_eq_some_iff.mp H
             obtain ⟨⟨t328, t329, t332⟩, A1390, H⟩ := H
             replace H : ((laws_eqTable.f kj93 t328 t329 t279 t280).bind fun t334 => (if t334 = true then (laws_FnExactMerge.j2 kj93 t317 (t332 != t283) t295 t318) else (laws_FnExactMerge.j2 kj93 t317 true t295 t318))) = some r := H
             have A139 := Aside0.mk A1390; clear A1390; have HC140 := Aside0.mk H; clear H
             try go_wp2
             have n_ := an (Kd.R_drew HO_285001.out) (an (Kd.R_drew HO_290001.out) (an (Kd.R_drew HO_295001.out) (an (Kd.R_drew HO_301001.out) (an (blk_drew BK267.out) (an (blk_drew BK268.out) (an (blk_drew BK284.out) (an (blk_drew BK289.out) (an (blk_drew BK294.out) (an (blk_drew BK300.out) (an (below_drew1 HB.out) (trivial)))))))))))
             clear HO_285001 HO_290001 HO_295001 HO_301001 BK267 BK268 BK284 BK289 BK294 BK300 HB
             obtain ⟨HO_285001, HO_290001, HO_295001, HO_301001, BK267, BK268, BK284, BK289, BK294, BK300, HB, -⟩ := n_
             refine start_ (n := 11) (S := fun w' => w'.cell? ⟨gb267, 0, none⟩ = some (.int .i64 a0_0) ∧ w'.cell? ⟨gb267, 1, none⟩ = some (.slice A0_1 l0_1.length c0_1) ∧ w'.cell? ⟨gb268, 0, none⟩ = some (.int .i64 a1_0) ∧ w'.cell? ⟨gb268, 1, none⟩ = some (.slice A1_1 l1_1.length c1_1)) (ds := []) #[false, false, false, false, false, false, false, false, false, false, false] (by kernel_rfl) rfl rfl ⟨(blk_cell BK267.out 0).trans rfl, (blk_cell BK267.out 1).trans rfl, (blk_cell BK268.out 0).trans rfl, (blk_cell BK268.out 1).trans rfl⟩ (fun hHeld => ?_); refine with_tabW laws_FnExactMerge.tab31 laws_FnExactMerge.bits31 (fun HT_ HW_ => ?_)
             generalize w134.drew = w141 at HO_285001 HO_290001 HO_295001 HO_301001 BK267 BK268 BK284 BK289 BK294 BK300 HB hHeld ⊢
             refine take_ (i := 0) (N := some 95) (v := ?_) (a' := ?_) #[true, false, false, false, false, false, false, false, false, false, false] rfl rfl (take_ofW HT_.out HW_.out (by kernel_rfl)) (fun _ _ _ h => h) (Or.inl ⟨by rfl, ?_⟩) hHeld ?_ ?_
             rotate_left
             ·rintro w' ⟨s0, s1, s2, s3⟩
              go_simp
              with_reducible rfl
             rotate_left; · simp only [Act.put, List.setIfInBounds_toArray, List.set_cons_zero, List.set_cons_succ, i64_w, i32_w]; rfl
             refine take_ (i := 2) (N := some 97) (v := ?_) (a' := ?_) #[true, false, true, false, false, false, false, false, false, false, false] rfl rfl (take_ofW HT_.out HW_.out (by kernel_rfl)) (fun _ _ _ h => h) (Or.inl ⟨by rfl, ?_⟩) hHeld ?_ ?_
             rotate_left
             ·rintro w' ⟨s0, s1, s2, s3⟩
              go_simp
              with_reducible rfl
             rotate_left; · simp only [Act.put, List.setIfInBounds_toArray, List.set_cons_zero, List.set_cons_succ, i64_w, i32_w]; rfl
             refine join_ (σ := Value × Value × Value × Nat) 2 #[true, true, true, true, true, true, true, true, true, false, false] (fun s_ => [(96, .agg #[.int .i64 t320, s_.1]), (98, .agg #[.int .i64 t324, s_.2.1]), (99, .tuple #[.agg #[.int .i64 t328, s_.2.2.1], .bool t332]), (15, .pointer (some ⟨s_.2.2.2, 0, none⟩)), (94, .tuple #[.agg #[.int .i64 t328, s_.2.2.1], .bool t332]), (100, .agg #[.int .i64 t328, s_.2.2.1]), (101, .bool t332)]) (fun s_ w' => (w'.cell? ⟨gb267, 0, none⟩ = some (.int .i64 a0_0) ∧ w'.cell? ⟨gb267, 1, none⟩ = some (.slice A0_1 l0_1.length c0_1) ∧ w'.cell? ⟨gb268, 0, none⟩ = some (.int .i64 a1_0) ∧ w'.cell? ⟨gb268, 1, none⟩ = some (.slice A1_1 l1_1.length c1_1)) ∧ (Kd.R k82 82 w' w.heap.size (fun k_ => some k_ ≠ (s_.2.1 : Value).ownBlock ∧ some k_ ≠ (s_.2.2.1 : Value).ownBlock ∧ some k_ ≠ (.slice Ao31 t280.length co31 : Value).ownBlock ∧ some k_ ≠ (.slice Ao42 t313.length co42 : Value).ownBlock ∧ some k_ ≠ (.slice Ao52 t315.length co52 : Value).ownBlock ∧ some k_ ≠ (.slice Ao62 t296.length co62 : Value).ownBlock) s_.1 t321) ∧ (Kd.R k82 82 w' w.heap.size (fun k_ => some k_ ≠ (s_.1 : Value).ownBlock ∧ some k_ ≠ (s_.2.2.1 : Value).ownBlock ∧ some k_ ≠ (.slice Ao31 t280.length co31 : Value).ownBlock ∧ some k_ ≠ (.slice Ao42 t313.length co42 : Value).ownBlock ∧ some k_ ≠ (.slice Ao52 t315.length co52 : Value).ownBlock ∧ some k_ ≠ (.slice Ao62 t296.length co62 : Value).ownBlock) s_.2.1 t325) ∧ (Kd.R k82 82 w' w.heap.size (fun k_ => some k_ ≠ (s_.1 : Value).ownBlock ∧ some k_ ≠ (s_.2.1 : Value).ownBlock ∧ some k_ ≠ (.slice Ao31 t280.length co31 : Value).ownBlock ∧ some k_ ≠ (.slice Ao42 t313.length co42 : Value).ownBlock ∧ some k_ ≠ (.slice Ao52 t315.length co52 : Value).ownBlock ∧ some k_ ≠ (.slice Ao62 t296.length co62 : Value).ownBlock) s_.2.2.1 t329) ∧ (Kd.R k82 82 w' w.heap.size (fun k_ => some k_ ≠ (s_.1 : Value).ownBlock ∧ some k_ ≠ (s_.2.1 : Value).ownBlock ∧ some k_ ≠ (s_.2.2.1 : Value).ownBlock ∧ some k_ ≠ (.slice Ao42 t313.length co42 : Value).ownBlock ∧ some k_ ≠ (.slice Ao52 t315.length co52 : Value).ownBlock ∧ some k_ ≠ (.slice Ao62 t296.length co62 : Value).ownBlock) (.slice Ao31 t280.length co31) t280) ∧ (Kd.R k82 82 w' w.heap.size (fun k_ => some k_ ≠ (s_.1 : Value).ownBlock ∧ some k_ ≠ (s_.2.1 : Value).ownBlock ∧ some k_ ≠ (s_.2.2.1 : Value).ownBlock ∧ some k_ ≠ (.slice Ao31 t280.length co31 : Value).ownBlock ∧ some k_ ≠ (.slice Ao52 t315.length co52 : Value).ownBlock ∧ some k_ ≠ (.slice Ao62 t296.length co62 : Value).ownBlock) (.slice Ao42 t313.length co42) t313) ∧ (Kd.R k82 82 w' w.heap.size (fun k_ => some k_ ≠ (s_.1 : Value).ownBlock ∧ some k_ ≠ (s_.2.1 : Value).ownBlock ∧ some k_ ≠ (s_.2.2.1 : Value).ownBlock ∧ some k_ ≠ (.slice Ao31 t280.length co31 : Value).ownBlock ∧ some k_ ≠ (.slice Ao42 t313.length co42 : Value).ownBlock ∧ some k_ ≠ (.slice Ao62 t296.length co62 : Value).ownBlock) (.slice Ao52 t315.length co52) t315) ∧ (Kd.R k82 82 w' w.heap.size (fun k_ => some k_ ≠ (s_.1 : Value).ownBlock ∧ some k_ ≠ (s_.2.1 : Value).ownBlock ∧ some k_ ≠ (s_.2.2.1 : Value).ownBlock ∧ some k_ ≠ (.slice Ao31 t280.length co31 : Value).ownBlock ∧ some k_ ≠ (.slice Ao42 t313.length co42 : Value).ownBlock ∧ some k_ ≠ (.slice Ao52 t315.length co52 : Value).ownBlock) (.slice Ao62 t296.length co62) t318) ∧ (w'.heap[gb267]? = some (.cells #[.int .i64 a0_0, .slice A0_1 l0_1.length c0_1] 37 (0, 0))) ∧ (w'.heap[gb268]? = some (.cells #[.int .i64 a1_0, .slice A1_1 l1_1.length c1_1] 37 (0, 0))) ∧ (w'.heap[gb284]? = some (.cells #[.int .i64 t279, .slice Ao31 t280.length co31] 41 (0, 0))) ∧ (w'.heap[gb289]? = some (.cells #[.int .i64 t285, .slice Ao42 t313.length co42] 41 (0, 0))) ∧ (w'.heap[gb294]? = some (.cells #[.int .i64 t290, .slice Ao52 t315.length co52] 41 (0, 0))) ∧ (w'.heap[gb300]? = some (.cells #[.int .i64 t295, .slice Ao62 t296.length co62] 41 (0, 0))) ∧ (w'.heap[s_.2.2.2]? = some (.cells #[.int .i64 0, .slice none 0 0] 41 (0, 0))) ∧ (w.heap.size ≤ s_.2.2.2) ∧ (w.heap.size ≤ s_.2.2.2) ∧ (gb267 ≠ s_.2.2.2) ∧ (s_.2.2.2 ≠ gb267) ∧ (gb268 ≠ s_.2.2.2) ∧ (s_.2.2.2 ≠ gb268) ∧ (gb284 ≠ s_.2.2.2) ∧ (s_.2.2.2 ≠ gb284) ∧ (gb289 ≠ s_.2.2.2) ∧ (s_.2.2.2 ≠ gb289) ∧ (gb294 ≠ s_.2.2.2) ∧ (s_.2.2.2 ≠ gb294) ∧ (gb300 ≠ s_.2.2.2) ∧ (s_.2.2.2 ≠ gb300) ∧ (Below w.heap.size w w')) ?_ ?_
             rotate_left
             ·intro hCont
              refine two_ (i := 1) (j := 8) (Ni := some 96) (Nj := some 15) #[true, true, true, false, false, false, false, false, false, false, false] #[true, false, true, false, false, false, false, false, true, false, false] rfl rfl rfl rfl (two_of HT_.out (by kernel_rfl)) (by decide) (by decide) (fun K hK => ?_) (fun K hK => ?_)
              ·skip
               refine goes_ Try.func25 (by kernel_rfl) rfl #[.agg #[.int .i64 a0_0, .slice A0_1 l0_1.length c0_1]] (by rfl) rfl rfl (by (try simp only [List.map_toArray, List.map_cons, List.map_nil]); first | done | rfl | (simp only [List.length_drop, List.length_take]; rfl)) ?_
               with_reducible refine (laws_toTable.calls kj93 a0_0 _ _ l0_1 t320 t321 _ ?side1 ?side2 A137.out).mono ?_
               (case side1 => repeat (first | exact (Kd.C_below HR0_1.out HB.out) | (with_reducible refine Kd.C_alloc ?_ _) | (with_reducible refine Kd.C_drewN ?_ _) | (with_reducible refine Kd.C_drew ?_)))
               (case side2 => exact HC0_1.out)
               rintro e w142 ⟨v322, rfl, ho0, hb⟩
               refine ⟨_, rfl, ?_⟩
               have n_ := an (Kd.R_elder' (by exact Kd.R_nw HO_285001.out) (Kd.R_base ho0) hb) (an (Kd.R_elder' (by exact Kd.R_nw HO_290001.out) (Kd.R_base ho0) hb) (an (Kd.R_elder' (by exact Kd.R_nw HO_295001.out) (Kd.R_base ho0) hb) (an (Kd.R_elder' (by exact Kd.R_nw HO_301001.out) (Kd.R_base ho0) hb) (an (Kd.R_lower (Kd.R_new' (Kd.R_new' (Kd.R_new' (Kd.R_new' ho0 (Kd.R_lt (by exact Kd.R_nw HO_285001.out))) (Kd.R_lt (by exact Kd.R_nw HO_290001.out))) (Kd.R_lt (by exact Kd.R_nw HO_295001.out))) (Kd.R_lt (by exact Kd.R_nw HO_301001.out))) (below_size (by exact bel0))) (an (blk_below (blk_nw BK267.out) hb) (an (blk_below (blk_nw BK268.out) hb) (an (blk_below (blk_nw BK284.out) hb) (an (blk_below (blk_nw BK289.out) hb) (an (blk_below (blk_nw BK294.out) hb) (an (blk_below (blk_nw BK300.out) hb) (an (below_step (by exact bel0) hb) (trivial))))))))))))
               clear HO_285001 HO_290001 HO_295001 HO_301001 BK267 BK268 BK284 BK289 BK294 BK300 HB
               obtain ⟨HO_285001, HO_290001, HO_295001, HO_301001, HO323, BK267, BK268, BK284, BK289, BK294, BK300, HB, -⟩ := n_
               (try clear hb); (try clear hb2); (try clear hk); (try clear hi); (try clear ho0)
               refine hK.out _ _ ⟨(blk_cell BK267.out 0).trans rfl, (blk_cell BK267.out 1).trans rfl, (blk_cell BK268.out 0).trans rfl, (blk_cell BK268.out 1).trans rfl⟩ (fun hHeld => ?_)
               clear hK K
               refine norm_ (a' := ?_) ?_ ?_
               rotate_left
               ·show Act.put _ (some 96) _ = _
                simp only [Act.put, List.setIfInBounds_toArray, List.set_cons_zero, List.set_cons_succ, i64_w, i32_w]
                rfl
               refine two_ (i := 3) (j := 8) (Ni := some 98) (Nj := some 15) #[true, true, true, true, false, false, false, false, false, false, false] #[true, true, true, false, false, false, false, false, true, false, false] rfl rfl rfl rfl (two_of HT_.out (by kernel_rfl)) (by decide) (by decide) (fun K hK => ?_) (fun K hK => ?_)
               ·skip
                refine goes_ Try.func25 (by kernel_rfl) rfl #[.agg #[.int .i64 a1_0, .slice A1_1 l1_1.length c1_1]] (by rfl) rfl rfl (by (try simp only [List.map_toArray, List.map_cons, List.map_nil]); first | done | rfl | (simp only [List.length_drop, List.length_take]; rfl)) ?_
                with_reducible refine (laws_toTable.calls kj93 a1_0 _ _ l1_1 t324 t325 _ ?side1 ?side2 A138.out).mono ?_
                (case side1 => repeat (first | exact (Kd.C_below HR1_1.out HB.out) | (with_reducible refine Kd.C_alloc ?_ _) | (with_reducible refine Kd.C_drewN ?_ _) | (with_reducible refine Kd.C_drew ?_)))
                (case side2 => exact HC1_1.out)
                rintro e w143 ⟨v326, rfl, ho0, hb⟩
                refine ⟨_, rfl, ?_⟩
                have n_ := an (Kd.R_elder' (by exact Kd.R_nw HO_285001.out) (Kd.R_base ho0) hb) (an (Kd.R_elder' (by exact Kd.R_nw HO_290001.out) (Kd.R_base ho0) hb) (an (Kd.R_elder' (by exact Kd.R_nw HO_295001.out) (Kd.R_base ho0) hb) (an (Kd.R_elder' (by exact Kd.R_nw HO_301001.out) (Kd.R_base ho0) hb) (an (Kd.R_elder' (by exact Kd.R_nw HO323.out) (Kd.R_base ho0) hb) (an (Kd.R_lower (Kd.R_new' (Kd.R_new' (Kd.R_new' (Kd.R_new' (Kd.R_new' ho0 (Kd.R_lt (by exact Kd.R_nw HO_285001.out))) (Kd.R_lt (by exact Kd.R_nw HO_290001.out))) (Kd.R_lt (by exact Kd.R_nw HO_295001.out))) (Kd.R_lt (by exact Kd.R_nw HO_301001.out))) (Kd.R_lt (by exact Kd.R_nw HO323.out))) (below_size (by exact bel0))) (an (blk_below (blk_nw BK267.out) hb) (an (blk_below (blk_nw BK268.out) hb) (an (blk_below (blk_nw BK284.out) hb) (an (blk_below (blk_nw BK289.out) hb) (an (blk_below (blk_nw BK294.out) hb) (an (blk_below (blk_nw BK300.out) hb) (an (below_step (by exact bel0) hb) (trivial)))))))))))))
                clear HO_285001 HO_290001 HO_295001 HO_301001 HO323 BK267 BK268 BK284 BK289 BK294 BK300 HB
                obtain ⟨HO_285001, HO_290001, HO_295001, HO_301001, HO323, HO327, BK267, BK268, BK284, BK289, BK294, BK300, HB, -⟩ := n_
                (try clear hb); (try clear hb2); (try clear hk); (try clear hi); (try clear ho0)
                obtain ⟨Ao144, co144, eo144⟩ := Kd.R_slice HO323.out
                (first | subst eo144 | (injection eo144 with f1_ f2_ f3_; have f4_ := f1_.symm; have f5_ := f3_.symm; clear f1_ f2_ f3_; subst f4_; subst f5_))
                obtain ⟨Ao145, co145, eo145⟩ := Kd.R_slice HO327.out
                (first | subst eo145 | (injection eo145 with f1_ f2_ f3_; have f4_ := f1_.symm; have f5_ := f3_.symm; clear f1_ f2_ f3_; subst f4_; subst f5_))
                refine hK.out _ _ ⟨(blk_cell BK267.out 0).trans rfl, (blk_cell BK267.out 1).trans rfl, (blk_cell BK268.out 0).trans rfl, (blk_cell BK268.out 1).trans rfl⟩ (fun hHeld => ?_)
                clear hK K
                refine norm_ (a' := ?_) ?_ ?_
                rotate_left
                ·show Act.put _ (some 98) _ = _
                 simp only [Act.put, List.setIfInBounds_toArray, List.set_cons_zero, List.set_cons_succ, i64_w, i32_w]
                 rfl
                refine two_ (i := 4) (j := 8) (Ni := some 99) (Nj := some 15) #[true, true, true, true, true, false, false, false, false, false, false] #[true, true, true, true, false, false, false, false, true, false, false] rfl rfl rfl rfl (two_of HT_.out (by kernel_rfl)) (by decide) (by decide) (fun K hK => ?_) (fun K hK => ?_)
                ·skip
                 refine goes_ Try.func55 (by kernel_rfl) rfl #[.agg #[.int .i64 t320, .slice Ao144 t321.length co144], .agg #[.int .i64 t324, .slice Ao145 t325.length co145]] (by rfl) rfl rfl (by (try simp only [List.map_toArray, List.map_cons, List.map_nil]); first | done | rfl | (simp only [List.length_drop, List.length_take]; rfl)) ?_
                 with_reducible refine (impl_Merge.calls kj93 t320 _ _ t321 t324 _ _ t325 t328 t329 t332 _ ?side1 ?side2 ?side3 ?side4 A139.out).mono ?_
                 (case side1 => repeat (first | exact (Kd.R_reads' HO323.out).2.2 | (with_reducible refine Kd.C_alloc ?_ _) | (with_reducible refine Kd.C_drewN ?_ _) | (with_reducible refine Kd.C_drew ?_)))
                 (case side2 => exact (Kd.R_reads' HO323.out).2.1)
                 (case side3 => repeat (first | exact (Kd.R_reads' HO327.out).2.2 | (with_reducible refine Kd.C_alloc ?_ _) | (with_reducible refine Kd.C_drewN ?_ _) | (with_reducible refine Kd.C_drew ?_)))
                 (case side4 => exact (Kd.R_reads' HO327.out).2.1)
                 rintro e w146 ⟨v330, rfl, ho0, hb⟩
                 refine ⟨_, rfl, ?_⟩
                 have n_ := an (Kd.R_elder' (by exact Kd.R_nw HO_285001.out) (Kd.R_base ho0) hb) (an (Kd.R_elder' (by exact Kd.R_nw HO_290001.out) (Kd.R_base ho0) hb) (an (Kd.R_elder' (by exact Kd.R_nw HO_295001.out) (Kd.R_base ho0) hb) (an (Kd.R_elder' (by exact Kd.R_nw HO_301001.out) (Kd.R_base ho0) hb) (an (Kd.R_elder' (by exact Kd.R_nw HO323.out) (Kd.R_base ho0) hb) (an (Kd.R_elder' (by exact Kd.R_nw HO327.out) (Kd.R_base ho0) hb) (an (Kd.R_lower (Kd.R_new' (Kd.R_new' (Kd.R_new' (Kd.R_new' (Kd.R_new' (Kd.R_new' ho0 (Kd.R_lt (by exact Kd.R_nw HO_285001.out))) (Kd.R_lt (by exact Kd.R_nw HO_290001.out))) (Kd.R_lt (by exact Kd.R_nw HO_295001.out))) (Kd.R_lt (by exact Kd.R_nw HO_301001.out))) (Kd.R_lt (by exact Kd.R_nw HO323.out))) (Kd.R_lt (by exact Kd.R_nw HO327.out))) (below_size (by exact bel0))) (an (blk_below (blk_nw BK267.out) hb) (an (blk_below (blk_nw BK268.out) hb) (an (blk_below (blk_nw BK284.out) hb) (an (blk_below (blk_nw BK289.out) hb) (an (blk_below (blk_nw BK294.out) hb) (an (blk_below (blk_nw BK300.out) hb) (an (below_step (by exact bel0) hb) (trivial))))))))))))))
                 clear HO_285001 HO_290001 HO_295001 HO_301001 HO323 HO327 BK267 BK268 BK284 BK289 BK294 BK300 HB
                 obtain ⟨HO_285001, HO_290001, HO_295001, HO_301001, HO323, HO327, HO331, BK267, BK268, BK284, BK289, BK294, BK300, HB, -⟩ := n_
                 (try clear hb); (try clear hb2); (try clear hk); (try clear hi); (try clear ho0)
                 refine hK.out _ _ ⟨(blk_cell BK267.out 0).trans rfl, (blk_cell BK267.out 1).trans rfl, (blk_cell BK268.out 0).trans rfl, (blk_cell BK268.out 1).trans rfl⟩ (fun hHeld => ?_)
                 clear hK K
                 refine norm_ (a' := ?_) ?_ ?_
                 rotate_left
                 ·show Act.put _ (some 99) _ = _
                  simp only [Act.put, List.setIfInBounds_toArray, List.set_cons_zero, List.set_cons_succ, i64_w, i32_w]
                  rfl
                 refine pure_ (i := 5) (N := some 94) (v := ?_) (a' := ?_) #[true, true, true, true, true, true, false, false, false, false, false] rfl rfl (any_of HT_.out (by kernel_rfl)) (fun _ _ _ h => h) (Or.inl ⟨by rfl, ?_⟩) ?_ ?_
                 rotate_left; · intro w'; go_simp; with_reducible rfl
                 rotate_left; · simp only [Act.put, List.setIfInBounds_toArray, List.set_cons_zero, List.set_cons_succ, i64_w, i32_w]; rfl
                 refine pure_ (i := 6) (N := some 100) (v := ?_) (a' := ?_) #[true, true, true, true, true, true, true, false, false, false, false] rfl rfl (any_of HT_.out (by kernel_rfl)) (fun _ _ _ h => h) (Or.inl ⟨by rfl, ?_⟩) ?_ ?_
                 rotate_left; · intro w'; go_simp; with_reducible rfl
                 rotate_left; · simp only [Act.put, List.setIfInBounds_toArray, List.set_cons_zero, List.set_cons_succ, i64_w, i32_w]; rfl
                 refine pure_ (i := 7) (N := some 101) (v := ?_) (a' := ?_) #[true, true, true, true, true, true, true, true, false, false, false] rfl rfl (any_of HT_.out (by kernel_rfl)) (fun _ _ _ h => h) (Or.inl ⟨by rfl, ?_⟩) ?_ ?_
                 rotate_left; · intro w'; go_simp; with_reducible rfl
                 rotate_left; · simp only [Act.put, List.setIfInBounds_toArray, List.set_cons_zero, List.set_cons_succ, i64_w, i32_w]; rfl
                 refine one_ (i := 8) (N := some 15) #[true, true, true, true, true, true, true, true, true, false, false] rfl rfl (one_of HT_.out (by kernel_rfl)) (by decide) (fun K hK => ?_)
                 refine box_step ?hg (N := 15) ?hd (cs := #[.int .i64 0, .slice none 0 0]) (t := 41) ?hr ?_; (case hd => rfl); (case hg => rfl); (case hr => first | (go_simp; done) | (go_simp; rfl))
                 intro gb333 hg w147 hbox hb
                 have n_ := an (Kd.R_below (by exact Kd.R_nw HO_285001.out) hb) (an (Kd.R_below (by exact Kd.R_nw HO_290001.out) hb) (an (Kd.R_below (by exact Kd.R_nw HO_295001.out) hb) (an (Kd.R_below (by exact Kd.R_nw HO_301001.out) hb) (an (Kd.R_below (by exact Kd.R_nw HO323.out) hb) (an (Kd.R_below (by exact Kd.R_nw HO327.out) hb) (an (Kd.R_below (by exact Kd.R_nw HO331.out) hb) (an (blk_below (blk_nw BK267.out) hb) (an (blk_below (blk_nw BK268.out) hb) (an (blk_below (blk_nw BK284.out) hb) (an (blk_below (blk_nw BK289.out) hb) (an (blk_below (blk_nw BK294.out) hb) (an (blk_below (blk_nw BK300.out) hb) (an (below_step (by exact bel0) hb) (an (hbox) (an ((by rw [hg]; exact (below_size (by exact bel0)) : w.heap.size ≤ gb333)) (an ((by rw [hg]; exact (below_size (by exact bel0)) : w.heap.size ≤ gb333)) (an ((by rw [hg]; exact Nat.ne_of_lt (blk_lt (blk_nw BK267.out)) : gb267 ≠ gb333)) (an ((by rw [hg]; exact Nat.ne_of_gt (blk_lt (blk_nw BK267.out)) : gb333 ≠ gb267)) (an ((by rw [hg]; exact Nat.ne_of_lt (blk_lt (blk_nw BK268.out)) : gb268 ≠ gb333)) (an ((by rw [hg]; exact Nat.ne_of_gt (blk_lt (blk_nw BK268.out)) : gb333 ≠ gb268)) (an ((by rw [hg]; exact Nat.ne_of_lt (blk_lt (blk_nw BK284.out)) : gb284 ≠ gb333)) (an ((by rw [hg]; exact Nat.ne_of_gt (blk_lt (blk_nw BK284.out)) : gb333 ≠ gb284)) (an ((by rw [hg]; exact Nat.ne_of_lt (blk_lt (blk_nw BK289.out)) : gb289 ≠ gb333)) (an ((by rw [hg]; exact Nat.ne_of_gt (blk_lt (blk_nw BK289.out)) : gb333 ≠ gb289)) (an ((by rw [hg]; exact Nat.ne_of_lt (blk_lt (blk_nw BK294.out)) : gb294 ≠ gb333)) (an ((by rw [hg]; exact Nat.ne_of_gt (blk_lt (blk_nw BK294.out)) : gb333 ≠ gb294)) (an ((by rw [hg]; exact Nat.ne_of_lt (blk_lt (blk_nw BK300.out)) : gb300 ≠ gb333)) (an ((by rw [hg]; exact Nat.ne_of_gt (blk_lt (blk_nw BK300.out)) : gb333 ≠ gb300)) (trivial)))))))))))))))))))))))))))))
                 clear HO_285001 HO_290001 HO_295001 HO_301001 HO323 HO327 HO331 BK267 BK268 BK284 BK289 BK294 BK300 HB
                 obtain ⟨HO_285001, HO_290001, HO_295001, HO_301001, HO323, HO327, HO331, BK267, BK268, BK284, BK289, BK294, BK300, HB, BK333, GW333, GE333, NB267_333, NB333_267, NB268_333, NB333_268, NB284_333, NB333_284, NB289_333, NB333_289, NB294_333, NB333_294, NB300_333, NB333_300, -⟩ := n_
                 clear hb hbox hg
                 refine hK.out _ _ ⟨(blk_cell BK267.out 0).trans rfl, (blk_cell BK267.out 1).trans rfl, (blk_cell BK268.out 0).trans rfl, (blk_cell BK268.out 1).trans rfl⟩ (fun hHeld => ?_)
                 clear hK K
                 refine norm_ (a' := ?_) ?_ ?_
                 rotate_left
                 ·show Act.put _ (some 15) _ = _
                  simp only [Act.put, List.setIfInBounds_toArray, List.set_cons_zero, List.set_cons_succ, i64_w, i32_w]
                  rfl
                 exact norm_ (by simp only [putAll, Act.put, List.setIfInBounds_toArray, List.set_cons_zero, List.set_cons_succ]) (hCont (.slice Ao144 t321.length co144, .slice Ao145 t325.length co145, v330, gb333) _ ⟨hHeld, (by exact Kd.R_nw (Kd.R_mono HO323.out (fun _ hk => ⟨hk.1.2, ⟨hk.2, ⟨hk.1.1.1.1.1.2, ⟨hk.1.1.1.1.2, ⟨hk.1.1.1.2, hk.1.1.2⟩⟩⟩⟩⟩))), (by exact Kd.R_nw (Kd.R_mono HO327.out (fun _ hk => ⟨hk.1.2, ⟨hk.2, ⟨hk.1.1.1.1.1.2, ⟨hk.1.1.1.1.2, ⟨hk.1.1.1.2, hk.1.1.2⟩⟩⟩⟩⟩))), (by exact Kd.R_nw (Kd.R_mono HO331.out (fun _ hk => ⟨hk.1.2, ⟨hk.2, ⟨hk.1.1.1.1.1.2, ⟨hk.1.1.1.1.2, ⟨hk.1.1.1.2, hk.1.1.2⟩⟩⟩⟩⟩))), (by exact Kd.R_nw (Kd.R_mono HO_285001.out (fun _ hk => ⟨hk.1.1.2, ⟨hk.1.2, ⟨hk.2, ⟨hk.1.1.1.1, ⟨hk.1.1.1.2.1, hk.1.1.1.2.2⟩⟩⟩⟩⟩))), (by exact Kd.R_nw (Kd.R_mono HO_290001.out (fun _ hk => ⟨hk.1.1.2, ⟨hk.1.2, ⟨hk.2, ⟨hk.1.1.1.1, ⟨hk.1.1.1.2.1, hk.1.1.1.2.2⟩⟩⟩⟩⟩))), (by exact Kd.R_nw (Kd.R_mono HO_295001.out (fun _ hk => ⟨hk.1.1.2, ⟨hk.1.2, ⟨hk.2, ⟨hk.1.1.1.1, ⟨hk.1.1.1.2.1, hk.1.1.1.2.2⟩⟩⟩⟩⟩))), (by exact Kd.R_nw (Kd.R_mono HO_301001.out (fun _ hk => ⟨hk.1.1.2, ⟨hk.1.2, ⟨hk.2, ⟨hk.1.1.1.1, ⟨hk.1.1.1.2.1, hk.1.1.1.2.2⟩⟩⟩⟩⟩))), (by exact blk_nw BK267.out), (by exact blk_nw BK268.out), (by exact blk_nw BK284.out), (by exact blk_nw BK289.out), (by exact blk_nw BK294.out), (by exact blk_nw BK300.out), (by exact blk_nw BK333.out), GW333.out, GE333.out, NB267_333.out, NB333_267.out, NB268_333.out, NB333_268.out, NB284_333.out, NB333_284.out, NB289_333.out, NB333_289.out, NB294_333.out, NB333_294.out, NB300_333.out, NB333_300.out, (by exact bel0)⟩)
                ·skip
                 refine box_step ?hg (N := 15) ?hd (cs := #[.int .i64 0, .slice none 0 0]) (t := 41) ?hr ?_; (case hd => rfl); (case hg => rfl); (case hr => first | (go_simp; done) | (go_simp; rfl))
                 intro gb333 hg w144 hbox hb
                 have n_ := an (Kd.R_below (by exact Kd.R_nw HO_285001.out) hb) (an (Kd.R_below (by exact Kd.R_nw HO_290001.out) hb) (an (Kd.R_below (by exact Kd.R_nw HO_295001.out) hb) (an (Kd.R_below (by exact Kd.R_nw HO_301001.out) hb) (an (Kd.R_below (by exact Kd.R_nw HO323.out) hb) (an (Kd.R_below (by exact Kd.R_nw HO327.out) hb) (an (blk_below (blk_nw BK267.out) hb) (an (blk_below (blk_nw BK268.out) hb) (an (blk_below (blk_nw BK284.out) hb) (an (blk_below (blk_nw BK289.out) hb) (an (blk_below (blk_nw BK294.out) hb) (an (blk_below (blk_nw BK300.out) hb) (an (below_step (by exact bel0) hb) (an (hbox) (an ((by rw [hg]; exact (below_size (by exact bel0)) : w.heap.size ≤ gb333)) (an ((by rw [hg]; exact (below_size (by exact bel0)) : w.heap.size ≤ gb333)) (an ((by rw [hg]; exact Nat.ne_of_lt (blk_lt (blk_nw BK267.out)) : gb267 ≠ gb333)) (an ((by rw [hg]; exact Nat.ne_of_gt (blk_lt (blk_nw BK267.out)) : gb333 ≠ gb267)) (an ((by rw [hg]; exact Nat.ne_of_lt (blk_lt (blk_nw BK268.out)) : gb268 ≠ gb333)) (an ((by rw [hg]; exact Nat.ne_of_gt (blk_lt (blk_nw BK268.out)) : gb333 ≠ gb268)) (an ((by rw [hg]; exact Nat.ne_of_lt (blk_lt (blk_nw BK284.out)) : gb284 ≠ gb333)) (an ((by rw [hg]; exact Nat.ne_of_gt (blk_lt (blk_nw BK284.out)) : gb333 ≠ gb284)) (an ((by rw [hg]; exact Nat.ne_of_lt (blk_lt (blk_nw BK289.out)) : gb289 ≠ gb333)) (an ((by rw [hg]; exact Nat.ne_of_gt (blk_lt (blk_nw BK289.out)) : gb333 ≠ gb289)) (an ((by rw [hg]; exact Nat.ne_of_lt (blk_lt (blk_nw BK294.out)) : gb294 ≠ gb333)) (an ((by rw [hg]; exact Nat.ne_of_gt (blk_lt (blk_nw BK294.out)) : gb333 ≠ gb294)) (an ((by rw [hg]; exact Nat.ne_of_lt (blk_lt (blk_nw BK300.out)) : gb300 ≠ gb333)) (an ((by rw [hg]; exact Nat.ne_of_gt (blk_lt (blk_nw BK300.out)) : gb333 ≠ gb300)) (trivial))))))))))))))))))))))))))))
                 clear HO_285001 HO_290001 HO_295001 HO_301001 HO323 HO327 BK267 BK268 BK284 BK289 BK294 BK300 HB
                 obtain ⟨HO_285001, HO_290001, HO_295001, HO_301001, HO323, HO327, BK267, BK268, BK284, BK289, BK294, BK300, HB, BK333, GW333, GE333, NB267_333, NB333_267, NB268_333, NB333_268, NB284_333, NB333_284, NB289_333, NB333_289, NB294_333, NB333_294, NB300_333, NB333_300, -⟩ := n_
                 clear hb hbox hg
                 obtain ⟨Ao145, co145, eo145⟩ := Kd.R_slice HO323.out
                 (first | subst eo145 | (injection eo145 with f1_ f2_ f3_; have f4_ := f1_.symm; have f5_ := f3_.symm; clear f1_ f2_ f3_; subst f4_; subst f5_))
                 obtain ⟨Ao146, co146, eo146⟩ := Kd.R_slice HO327.out
                 (first | subst eo146 | (injection eo146 with f1_ f2_ f3_; have f4_ := f1_.symm; have f5_ := f3_.symm; clear f1_ f2_ f3_; subst f4_; subst f5_))
                 refine hK.out _ _ ⟨(blk_cell BK267.out 0).trans rfl, (blk_cell BK267.out 1).trans rfl, (blk_cell BK268.out 0).trans rfl, (blk_cell BK268.out 1).trans rfl⟩ (fun hHeld => ?_)
                 clear hK K
                 refine norm_ (a' := ?_) ?_ ?_
                 rotate_left
                 ·show Act.put _ (some 15) _ = _
                  simp only [Act.put, List.setIfInBounds_toArray, List.set_cons_zero, List.set_cons_succ, i64_w, i32_w]
                  rfl
                 refine one_ (i := 4) (N := some 99) #[true, true, true, true, true, false, false, false, true, false, false] rfl rfl (one_of HT_.out (by kernel_rfl)) (by decide) (fun K hK => ?_)
                 refine goes_ Try.func55 (by kernel_rfl) rfl #[.agg #[.int .i64 t320, .slice Ao145 t321.length co145], .agg #[.int .i64 t324, .slice Ao146 t325.length co146]] (by rfl) rfl rfl (by (try simp only [List.map_toArray, List.map_cons, List.map_nil]); first | done | rfl | (simp only [List.length_drop, List.length_take]; rfl)) ?_
                 with_reducible refine (impl_Merge.calls kj93 t320 _ _ t321 t324 _ _ t325 t328 t329 t332 _ ?side1 ?side2 ?side3 ?side4 A139.out).mono ?_
                 (case side1 => repeat (first | exact (Kd.R_reads' HO323.out).2.2 | (with_reducible refine Kd.C_alloc ?_ _) | (with_reducible refine Kd.C_drewN ?_ _) | (with_reducible refine Kd.C_drew ?_)))
                 (case side2 => exact (Kd.R_reads' HO323.out).2.1)
                 (case side3 => repeat (first | exact (Kd.R_reads' HO327.out).2.2 | (with_reducible refine Kd.C_alloc ?_ _) | (with_reducible refine Kd.C_drewN ?_ _) | (with_reducible refine Kd.C_drew ?_)))
                 (case side4 => exact (Kd.R_reads' HO327.out).2.1)
                 rintro e w147 ⟨v330, rfl, ho0, hb⟩
                 refine ⟨_, rfl, ?_⟩
                 have n_ := an (Kd.R_elder' (by exact Kd.R_nw HO_285001.out) (Kd.R_base ho0) hb) (an (Kd.R_elder' (by exact Kd.R_nw HO_290001.out) (Kd.R_base ho0) hb) (an (Kd.R_elder' (by exact Kd.R_nw HO_295001.out) (Kd.R_base ho0) hb) (an (Kd.R_elder' (by exact Kd.R_nw HO_301001.out) (Kd.R_base ho0) hb) (an (Kd.R_elder' (by exact Kd.R_nw HO323.out) (Kd.R_base ho0) hb) (an (Kd.R_elder' (by exact Kd.R_nw HO327.out) (Kd.R_base ho0) hb) (an (Kd.R_lower (Kd.R_new' (Kd.R_new' (Kd.R_new' (Kd.R_new' (Kd.R_new' (Kd.R_new' ho0 (Kd.R_lt (by exact Kd.R_nw HO_285001.out))) (Kd.R_lt (by exact Kd.R_nw HO_290001.out))) (Kd.R_lt (by exact Kd.R_nw HO_295001.out))) (Kd.R_lt (by exact Kd.R_nw HO_301001.out))) (Kd.R_lt (by exact Kd.R_nw HO323.out))) (Kd.R_lt (by exact Kd.R_nw HO327.out))) (below_size (by exact bel0))) (an (blk_below (blk_nw BK267.out) hb) (an (blk_below (blk_nw BK268.out) hb) (an (blk_below (blk_nw BK284.out) hb) (an (blk_below (blk_nw BK289.out) hb) (an (blk_below (blk_nw BK294.out) hb) (an (blk_below (blk_nw BK300.out) hb) (an (blk_below (blk_nw BK333.out) hb) (an (below_step (by exact bel0) hb) (trivial)))))))))))))))
                 clear HO_285001 HO_290001 HO_295001 HO_301001 HO323 HO327 BK267 BK268 BK284 BK289 BK294 BK300 BK333 HB
                 obtain ⟨HO_285001, HO_290001, HO_295001, HO_301001, HO323, HO327, HO331, BK267, BK268, BK284, BK289, BK294, BK300, BK333, HB, -⟩ := n_
                 (try clear hb); (try clear hb2); (try clear hk); (try clear hi); (try clear ho0)
                 refine hK.out _ _ ⟨(blk_cell BK267.out 0).trans rfl, (blk_cell BK267.out 1).trans rfl, (blk_cell BK268.out 0).trans rfl, (blk_cell BK268.out 1).trans rfl⟩ (fun hHeld => ?_)
                 clear hK K
                 refine norm_ (a' := ?_) ?_ ?_
                 rotate_left
                 ·show Act.put _ (some 99) _ = _
                  simp only [Act.put, List.setIfInBounds_toArray, List.set_cons_zero, List.set_cons_succ, i64_w, i32_w]
                  rfl
                 refine pure_ (i := 5) (N := some 94) (v := ?_) (a' := ?_) #[true, true, true, true, true, true, false, false, true, false, false] rfl rfl (any_of HT_.out (by kernel_rfl)) (fun _ _ _ h => h) (Or.inl ⟨by rfl, ?_⟩) ?_ ?_
                 rotate_left; · intro w'; go_simp; with_reducible rfl
                 rotate_left; · simp only [Act.put, List.setIfInBounds_toArray, List.set_cons_zero, List.set_cons_succ, i64_w, i32_w]; rfl
                 refine pure_ (i := 6) (N := some 100) (v := ?_) (a' := ?_) #[true, true, true, true, true, true, true, false, true, false, false] rfl rfl (any_of HT_.out (by kernel_rfl)) (fun _ _ _ h => h) (Or.inl ⟨by rfl, ?_⟩) ?_ ?_
                 rotate_left; · intro w'; go_simp; with_reducible rfl
                 rotate_left; · simp only [Act.put, List.setIfInBounds_toArray, List.set_cons_zero, List.set_cons_succ, i64_w, i32_w]; rfl
                 refine pure_ (i := 7) (N := some 101) (v := ?_) (a' := ?_) #[true, true, true, true, true, true, true, true, true, false, false] rfl rfl (any_of HT_.out (by kernel_rfl)) (fun _ _ _ h => h) (Or.inl ⟨by rfl, ?_⟩) ?_ ?_
                 rotate_left; · intro w'; go_simp; with_reducible rfl
                 rotate_left; · simp only [Act.put, List.setIfInBounds_toArray, List.set_cons_zero, List.set_cons_succ, i64_w, i32_w]; rfl
                 exact norm_ (by simp only [putAll, Act.put, List.setIfInBounds_toArray, List.set_cons_zero, List.set_cons_succ]) (hCont (.slice Ao145 t321.length co145, .slice Ao146 t325.length co146, v330, gb333) _ ⟨hHeld, (by exact Kd.R_nw (Kd.R_mono HO323.out (fun _ hk => ⟨hk.1.2, ⟨hk.2, ⟨hk.1.1.1.1.1.2, ⟨hk.1.1.1.1.2, ⟨hk.1.1.1.2, hk.1.1.2⟩⟩⟩⟩⟩))), (by exact Kd.R_nw (Kd.R_mono HO327.out (fun _ hk => ⟨hk.1.2, ⟨hk.2, ⟨hk.1.1.1.1.1.2, ⟨hk.1.1.1.1.2, ⟨hk.1.1.1.2, hk.1.1.2⟩⟩⟩⟩⟩))), (by exact Kd.R_nw (Kd.R_mono HO331.out (fun _ hk => ⟨hk.1.2, ⟨hk.2, ⟨hk.1.1.1.1.1.2, ⟨hk.1.1.1.1.2, ⟨hk.1.1.1.2, hk.1.1.2⟩⟩⟩⟩⟩))), (by exact Kd.R_nw (Kd.R_mono HO_285001.out (fun _ hk => ⟨hk.1.1.2, ⟨hk.1.2, ⟨hk.2, ⟨hk.1.1.1.1, ⟨hk.1.1.1.2.1, hk.1.1.1.2.2⟩⟩⟩⟩⟩))), (by exact Kd.R_nw (Kd.R_mono HO_290001.out (fun _ hk => ⟨hk.1.1.2, ⟨hk.1.2, ⟨hk.2, ⟨hk.1.1.1.1, ⟨hk.1.1.1.2.1, hk.1.1.1.2.2⟩⟩⟩⟩⟩))), (by exact Kd.R_nw (Kd.R_mono HO_295001.out (fun _ hk => ⟨hk.1.1.2, ⟨hk.1.2, ⟨hk.2, ⟨hk.1.1.1.1, ⟨hk.1.1.1.2.1, hk.1.1.1.2.2⟩⟩⟩⟩⟩))), (by exact Kd.R_nw (Kd.R_mono HO_301001.out (fun _ hk => ⟨hk.1.1.2, ⟨hk.1.2, ⟨hk.2, ⟨hk.1.1.1.1, ⟨hk.1.1.1.2.1, hk.1.1.1.2.2⟩⟩⟩⟩⟩))), (by exact blk_nw BK267.out), (by exact blk_nw BK268.out), (by exact blk_nw BK284.out), (by exact blk_nw BK289.out), (by exact blk_nw BK294.out), (by exact blk_nw BK300.out), (by exact blk_nw BK333.out), GW333.out, GE333.out, NB267_333.out, NB333_267.out, NB268_333.out, NB333_268.out, NB284_333.out, NB333_284.out, NB289_333.out, NB333_289.out, NB294_333.out, NB333_294.out, NB300_333.out, NB333_300.out, (by exact bel0)⟩)
               ·skip
                refine box_step ?hg (N := 15) ?hd (cs := #[.int .i64 0, .slice none 0 0]) (t := 41) ?hr ?_; (case hd => rfl); (case hg => rfl); (case hr => first | (go_simp; done) | (go_simp; rfl))
                intro gb333 hg w143 hbox hb
                have n_ := an (Kd.R_below (by exact Kd.R_nw HO_285001.out) hb) (an (Kd.R_below (by exact Kd.R_nw HO_290001.out) hb) (an (Kd.R_below (by exact Kd.R_nw HO_295001.out) hb) (an (Kd.R_below (by exact Kd.R_nw HO_301001.out) hb) (an (Kd.R_below (by exact Kd.R_nw HO323.out) hb) (an (blk_below (blk_nw BK267.out) hb) (an (blk_below (blk_nw BK268.out) hb) (an (blk_below (blk_nw BK284.out) hb) (an (blk_below (blk_nw BK289.out) hb) (an (blk_below (blk_nw BK294.out) hb) (an (blk_below (blk_nw BK300.out) hb) (an (below_step (by exact bel0) hb) (an (hbox) (an ((by rw [hg]; exact (below_size (by exact bel0)) : w.heap.size ≤ gb333)) (an ((by rw [hg]; exact (below_size (by exact bel0)) : w.heap.size ≤ gb333)) (an ((by rw [hg]; exact Nat.ne_of_lt (blk_lt (blk_nw BK267.out)) : gb267 ≠ gb333)) (an ((by rw [hg]; exact Nat.ne_of_gt (blk_lt (blk_nw BK267.out)) : gb333 ≠ gb267)) (an ((by rw [hg]; exact Nat.ne_of_lt (blk_lt (blk_nw BK268.out)) : gb268 ≠ gb333)) (an ((by rw [hg]; exact Nat.ne_of_gt (blk_lt (blk_nw BK268.out)) : gb333 ≠ gb268)) (an ((by rw [hg]; exact Nat.ne_of_lt (blk_lt (blk_nw BK284.out)) : gb284 ≠ gb333)) (an ((by rw [hg]; exact Nat.ne_of_gt (blk_lt (blk_nw BK284.out)) : gb333 ≠ gb284)) (an ((by rw [hg]; exact Nat.ne_of_lt (blk_lt (blk_nw BK289.out)) : gb289 ≠ gb333)) (an ((by rw [hg]; exact Nat.ne_of_gt (blk_lt (blk_nw BK289.out)) : gb333 ≠ gb289)) (an ((by rw [hg]; exact Nat.ne_of_lt (blk_lt (blk_nw BK294.out)) : gb294 ≠ gb333)) (an ((by rw [hg]; exact Nat.ne_of_gt (blk_lt (blk_nw BK294.out)) : gb333 ≠ gb294)) (an ((by rw [hg]; exact Nat.ne_of_lt (blk_lt (blk_nw BK300.out)) : gb300 ≠ gb333)) (an ((by rw [hg]; exact Nat.ne_of_gt (blk_lt (blk_nw BK300.out)) : gb333 ≠ gb300)) (trivial)))))))))))))))))))))))))))
                clear HO_285001 HO_290001 HO_295001 HO_301001 HO323 BK267 BK268 BK284 BK289 BK294 BK300 HB
                obtain ⟨HO_285001, HO_290001, HO_295001, HO_301001, HO323, BK267, BK268, BK284, BK289, BK294, BK300, HB, BK333, GW333, GE333, NB267_333, NB333_267, NB268_333, NB333_268, NB284_333, NB333_284, NB289_333, NB333_289, NB294_333, NB333_294, NB300_333, NB333_300, -⟩ := n_
                clear hb hbox hg
                refine hK.out _ _ ⟨(blk_cell BK267.out 0).trans rfl, (blk_cell BK267.out 1).trans rfl, (blk_cell BK268.out 0).trans rfl, (blk_cell BK268.out 1).trans rfl⟩ (fun hHeld => ?_)
                clear hK K
                refine norm_ (a' := ?_) ?_ ?_
                rotate_left
                ·show Act.put _ (some 15) _ = _
                 simp only [Act.put, List.setIfInBounds_toArray, List.set_cons_zero, List.set_cons_succ, i64_w, i32_w]
                 rfl
                refine one_ (i := 3) (N := some 98) #[true, true, true, true, false, false, false, false, true, false, false] rfl rfl (one_of HT_.out (by kernel_rfl)) (by decide) (fun K hK => ?_)
                refine goes_ Try.func25 (by kernel_rfl) rfl #[.agg #[.int .i64 a1_0, .slice A1_1 l1_1.length c1_1]] (by rfl) rfl rfl (by (try simp only [List.map_toArray, List.map_cons, List.map_nil]); first | done | rfl | (simp only [List.length_drop, List.length_take]; rfl)) ?_
                with_reducible refine (laws_toTable.calls kj93 a1_0 _ _ l1_1 t324 t325 _ ?side1 ?side2 A138.out).mono ?_
                (case side1 => repeat (first | exact (Kd.C_below HR1_1.out HB.out) | (with_reducible refine Kd.C_alloc ?_ _) | (with_reducible refine Kd.C_drewN ?_ _) | (with_reducible refine Kd.C_drew ?_)))
                (case side2 => exact HC1_1.out)
                rintro e w144 ⟨v326, rfl, ho0, hb⟩
                refine ⟨_, rfl, ?_⟩
                have n_ := an (Kd.R_elder' (by exact Kd.R_nw HO_285001.out) (Kd.R_base ho0) hb) (an (Kd.R_elder' (by exact Kd.R_nw HO_290001.out) (Kd.R_base ho0) hb) (an (Kd.R_elder' (by exact Kd.R_nw HO_295001.out) (Kd.R_base ho0) hb) (an (Kd.R_elder' (by exact Kd.R_nw HO_301001.out) (Kd.R_base ho0) hb) (an (Kd.R_elder' (by exact Kd.R_nw HO323.out) (Kd.R_base ho0) hb) (an (Kd.R_lower (Kd.R_new' (Kd.R_new' (Kd.R_new' (Kd.R_new' (Kd.R_new' ho0 (Kd.R_lt (by exact Kd.R_nw HO_285001.out))) (Kd.R_lt (by exact Kd.R_nw HO_290001.out))) (Kd.R_lt (by exact Kd.R_nw HO_295001.out))) (Kd.R_lt (by exact Kd.R_nw HO_301001.out))) (Kd.R_lt (by exact Kd.R_nw HO323.out))) (below_size (by exact bel0))) (an (blk_below (blk_nw BK267.out) hb) (an (blk_below (blk_nw BK268.out) hb) (an (blk_below (blk_nw BK284.out) hb) (an (blk_below (blk_nw BK289.out) hb) (an (blk_below (blk_nw BK294.out) hb) (an (blk_below (blk_nw BK300.out) hb) (an (blk_below (blk_nw BK333.out) hb) (an (below_step (by exact bel0) hb) (trivial))))))))))))))
                clear HO_285001 HO_290001 HO_295001 HO_301001 HO323 BK267 BK268 BK284 BK289 BK294 BK300 BK333 HB
                obtain ⟨HO_285001, HO_290001, HO_295001, HO_301001, HO323, HO327, BK267, BK268, BK284, BK289, BK294, BK300, BK333, HB, -⟩ := n_
                (try clear hb); (try clear hb2); (try clear hk); (try clear hi); (try clear ho0)
                obtain ⟨Ao145, co145, eo145⟩ := Kd.R_slice HO323.out
                (first | subst eo145 | (injection eo145 with f1_ f2_ f3_; have f4_ := f1_.symm; have f5_ := f3_.symm; clear f1_ f2_ f3_; subst f4_; subst f5_))
                obtain ⟨Ao146, co146, eo146⟩ := Kd.R_slice HO327.out
                (first | subst eo146 | (injection eo146 with f1_ f2_ f3_; have f4_ := f1_.symm; have f5_ := f3_.symm; clear f1_ f2_ f3_; subst f4_; subst f5_))
                refine hK.out _ _ ⟨(blk_cell BK267.out 0).trans rfl, (blk_cell BK267.out 1).trans rfl, (blk_cell BK268.out 0).trans rfl, (blk_cell BK268.out 1).trans rfl⟩ (fun hHeld => ?_)
                clear hK K
                refine norm_ (a' := ?_) ?_ ?_
                rotate_left
                ·show Act.put _ (some 98) _ = _
                 simp only [Act.put, List.setIfInBounds_toArray, List.set_cons_zero, List.set_cons_succ, i64_w, i32_w]
                 rfl
                refine one_ (i := 4) (N := some 99) #[true, true, true, true, true, false, false, false, true, false, false] rfl rfl (one_of HT_.out (by kernel_rfl)) (by decide) (fun K hK => ?_)
                refine goes_ Try.func55 (by kernel_rfl) rfl #[.agg #[.int .i64 t320, .slice Ao145 t321.length co145], .agg #[.int .i64 t324, .slice Ao146 t325.length co146]] (by rfl) rfl rfl (by (try simp only [List.map_toArray, List.map_cons, List.map_nil]); first | done | rfl | (simp only [List.length_drop, List.length_take]; rfl)) ?_
                with_reducible refine (impl_Merge.calls kj93 t320 _ _ t321 t324 _ _ t325 t328 t329 t332 _ ?side1 ?side2 ?side3 ?side4 A139.out).mono ?_
                (case side1 => repeat (first | exact (Kd.R_reads' HO323.out).2.2 | (with_reducible refine Kd.C_alloc ?_ _) | (with_reducible refine Kd.C_drewN ?_ _) | (with_reducible refine Kd.C_drew ?_)))
                (case side2 => exact (Kd.R_reads' HO323.out).2.1)
                (case side3 => repeat (first | exact (Kd.R_reads' HO327.out).2.2 | (with_reducible refine Kd.C_alloc ?_ _) | (with_reducible refine Kd.C_drewN ?_ _) | (with_reducible refine Kd.C_drew ?_)))
                (case side4 => exact (Kd.R_reads' HO327.out).2.1)
                rintro e w147 ⟨v330, rfl, ho0, hb⟩
                refine ⟨_, rfl, ?_⟩
                have n_ := an (Kd.R_elder' (by exact Kd.R_nw HO_285001.out) (Kd.R_base ho0) hb) (an (Kd.R_elder' (by exact Kd.R_nw HO_290001.out) (Kd.R_base ho0) hb) (an (Kd.R_elder' (by exact Kd.R_nw HO_295001.out) (Kd.R_base ho0) hb) (an (Kd.R_elder' (by exact Kd.R_nw HO_301001.out) (Kd.R_base ho0) hb) (an (Kd.R_elder' (by exact Kd.R_nw HO323.out) (Kd.R_base ho0) hb) (an (Kd.R_elder' (by exact Kd.R_nw HO327.out) (Kd.R_base ho0) hb) (an (Kd.R_lower (Kd.R_new' (Kd.R_new' (Kd.R_new' (Kd.R_new' (Kd.R_new' (Kd.R_new' ho0 (Kd.R_lt (by exact Kd.R_nw HO_285001.out))) (Kd.R_lt (by exact Kd.R_nw HO_290001.out))) (Kd.R_lt (by exact Kd.R_nw HO_295001.out))) (Kd.R_lt (by exact Kd.R_nw HO_301001.out))) (Kd.R_lt (by exact Kd.R_nw HO323.out))) (Kd.R_lt (by exact Kd.R_nw HO327.out))) (below_size (by exact bel0))) (an (blk_below (blk_nw BK267.out) hb) (an (blk_below (blk_nw BK268.out) hb) (an (blk_below (blk_nw BK284.out) hb) (an (blk_below (blk_nw BK289.out) hb) (an (blk_below (blk_nw BK294.out) hb) (an (blk_below (blk_nw BK300.out) hb) (an (blk_below (blk_nw BK333.out) hb) (an (below_step (by exact bel0) hb) (trivial)))))))))))))))
                clear HO_285001 HO_290001 HO_295001 HO_301001 HO323 HO327 BK267 BK268 BK284 BK289 BK294 BK300 BK333 HB
                obtain ⟨HO_285001, HO_290001, HO_295001, HO_301001, HO323, HO327, HO331, BK267, BK268, BK284, BK289, BK294, BK300, BK333, HB, -⟩ := n_
                (try clear hb); (try clear hb2); (try clear hk); (try clear hi); (try clear ho0)
                refine hK.out _ _ ⟨(blk_cell BK267.out 0).trans rfl, (blk_cell BK267.out 1).trans rfl, (blk_cell BK268.out 0).trans rfl, (blk_cell BK268.out 1).trans rfl⟩ (fun hHeld => ?_)
                clear hK K
                refine norm_ (a' := ?_) ?_ ?_
                rotate_left
                ·show Act.put _ (some 99) _ = _
                 simp only [Act.put, List.setIfInBounds_toArray, List.set_cons_zero, List.set_cons_succ, i64_w, i32_w]
                 rfl
                refine pure_ (i := 5) (N := some 94) (v := ?_) (a' := ?_) #[true, true, true, true, true, true, false, false, true, false, false] rfl rfl (any_of HT_.out (by kernel_rfl)) (fun _ _ _ h => h) (Or.inl ⟨by rfl, ?_⟩) ?_ ?_
                rotate_left; · intro w'; go_simp; with_reducible rfl
                rotate_left; · simp only [Act.put, List.setIfInBounds_toArray, List.set_cons_zero, List.set_cons_succ, i64_w, i32_w]; rfl
                refine pure_ (i := 6) (N := some 100) (v := ?_) (a' := ?_) #[true, true, true, true, true, true, true, false, true, false, false] rfl rfl (any_of HT_.out (by kernel_rfl)) (fun _ _ _ h => h) (Or.inl ⟨by rfl, ?_⟩) ?_ ?_
                rotate_left; · intro w'; go_simp; with_reducible rfl
                rotate_left; · simp only [Act.put, List.setIfInBounds_toArray, List.set_cons_zero, List.set_cons_succ, i64_w, i32_w]; rfl
                refine pure_ (i := 7) (N := some 101) (v := ?_) (a' := ?_) #[true, true, true, true, true, true, true, true, true, false, false] rfl rfl (any_of HT_.out (by kernel_rfl)) (fun _ _ _ h => h) (Or.inl ⟨by rfl, ?_⟩) ?_ ?_
                rotate_left; · intro w'; go_simp; with_reducible rfl
                rotate_left; · simp only [Act.put, List.setIfInBounds_toArray, List.set_cons_zero, List.set_cons_succ, i64_w, i32_w]; rfl
                exact norm_ (by simp only [putAll, Act.put, List.setIfInBounds_toArray, List.set_cons_zero, List.set_cons_succ]) (hCont (.slice Ao145 t321.length co145, .slice Ao146 t325.length co146, v330, gb333) _ ⟨hHeld, (by exact Kd.R_nw (Kd.R_mono HO323.out (fun _ hk => ⟨hk.1.2, ⟨hk.2, ⟨hk.1.1.1.1.1.2, ⟨hk.1.1.1.1.2, ⟨hk.1.1.1.2, hk.1.1.2⟩⟩⟩⟩⟩))), (by exact Kd.R_nw (Kd.R_mono HO327.out (fun _ hk => ⟨hk.1.2, ⟨hk.2, ⟨hk.1.1.1.1.1.2, ⟨hk.1.1.1.1.2, ⟨hk.1.1.1.2, hk.1.1.2⟩⟩⟩⟩⟩))), (by exact Kd.R_nw (Kd.R_mono HO331.out (fun _ hk => ⟨hk.1.2, ⟨hk.2, ⟨hk.1.1.1.1.1.2, ⟨hk.1.1.1.1.2, ⟨hk.1.1.1.2, hk.1.1.2⟩⟩⟩⟩⟩))), (by exact Kd.R_nw (Kd.R_mono HO_285001.out (fun _ hk => ⟨hk.1.1.2, ⟨hk.1.2, ⟨hk.2, ⟨hk.1.1.1.1, ⟨hk.1.1.1.2.1, hk.1.1.1.2.2⟩⟩⟩⟩⟩))), (by exact Kd.R_nw (Kd.R_mono HO_290001.out (fun _ hk => ⟨hk.1.1.2, ⟨hk.1.2, ⟨hk.2, ⟨hk.1.1.1.1, ⟨hk.1.1.1.2.1, hk.1.1.1.2.2⟩⟩⟩⟩⟩))), (by exact Kd.R_nw (Kd.R_mono HO_295001.out (fun _ hk => ⟨hk.1.1.2, ⟨hk.1.2, ⟨hk.2, ⟨hk.1.1.1.1, ⟨hk.1.1.1.2.1, hk.1.1.1.2.2⟩⟩⟩⟩⟩))), (by exact Kd.R_nw (Kd.R_mono HO_301001.out (fun _ hk => ⟨hk.1.1.2, ⟨hk.1.2, ⟨hk.2, ⟨hk.1.1.1.1, ⟨hk.1.1.1.2.1, hk.1.1.1.2.2⟩⟩⟩⟩⟩))), (by exact blk_nw BK267.out), (by exact blk_nw BK268.out), (by exact blk_nw BK284.out), (by exact blk_nw BK289.out), (by exact blk_nw BK294.out), (by exact blk_nw BK300.out), (by exact blk_nw BK333.out), GW333.out, GE333.out, NB267_333.out, NB333_267.out, NB268_333.out, NB333_268.out, NB284_333.out, NB333_284.out, NB289_333.out, NB333_289.out, NB294_333.out, NB333_294.out, NB300_333.out, NB333_300.out, (by exact bel0)⟩)
              ·skip
               refine box_step ?hg (N := 15) ?hd (cs := #[.int .i64 0, .slice none 0 0]) (t := 41) ?hr ?_; (case hd => rfl); (case hg => rfl); (case hr => first | (go_simp; done) | (go_simp; rfl))
               intro gb333 hg w142 hbox hb
               have n_ := an (Kd.R_below (by exact Kd.R_nw HO_285001.out) hb) (an (Kd.R_below (by exact Kd.R_nw HO_290001.out) hb) (an (Kd.R_below (by exact Kd.R_nw HO_295001.out) hb) (an (Kd.R_below (by exact Kd.R_nw HO_301001.out) hb) (an (blk_below (blk_nw BK267.out) hb) (an (blk_below (blk_nw BK268.out) hb) (an (blk_below (blk_nw BK284.out) hb) (an (blk_below (blk_nw BK289.out) hb) (an (blk_below (blk_nw BK294.out) hb) (an (blk_below (blk_nw BK300.out) hb) (an (below_step (by exact bel0) hb) (an (hbox) (an ((by rw [hg]; exact (below_size (by exact bel0)) : w.heap.size ≤ gb333)) (an ((by rw [hg]; exact (below_size (by exact bel0)) : w.heap.size ≤ gb333)) (an ((by rw [hg]; exact Nat.ne_of_lt (blk_lt (blk_nw BK267.out)) : gb267 ≠ gb333)) (an ((by rw [hg]; exact Nat.ne_of_gt (blk_lt (blk_nw BK267.out)) : gb333 ≠ gb267)) (an ((by rw [hg]; exact Nat.ne_of_lt (blk_lt (blk_nw BK268.out)) : gb268 ≠ gb333)) (an ((by rw [hg]; exact Nat.ne_of_gt (blk_lt (blk_nw BK268.out)) : gb333 ≠ gb268)) (an ((by rw [hg]; exact Nat.ne_of_lt (blk_lt (blk_nw BK284.out)) : gb284 ≠ gb333)) (an ((by rw [hg]; exact Nat.ne_of_gt (blk_lt (blk_nw BK284.out)) : gb333 ≠ gb284)) (an ((by rw [hg]; exact Nat.ne_of_lt (blk_lt (blk_nw BK289.out)) : gb289 ≠ gb333)) (an ((by rw [hg]; exact Nat.ne_of_gt (blk_lt (blk_nw BK289.out)) : gb333 ≠ gb289)) (an ((by rw [hg]; exact Nat.ne_of_lt (blk_lt (blk_nw BK294.out)) : gb294 ≠ gb333)) (an ((by rw [hg]; exact Nat.ne_of_gt (blk_lt (blk_nw BK294.out)) : gb333 ≠ gb294)) (an ((by rw [hg]; exact Nat.ne_of_lt (blk_lt (blk_nw BK300.out)) : gb300 ≠ gb333)) (an ((by rw [hg]; exact Nat.ne_of_gt (blk_lt (blk_nw BK300.out)) : gb333 ≠ gb300)) (trivial))))))))))))))))))))))))))
               clear HO_285001 HO_290001 HO_295001 HO_301001 BK267 BK268 BK284 BK289 BK294 BK300 HB
               obtain ⟨HO_285001, HO_290001, HO_295001, HO_301001, BK267, BK268, BK284, BK289, BK294, BK300, HB, BK333, GW333, GE333, NB267_333, NB333_267, NB268_333, NB333_268, NB284_333, NB333_284, NB289_333, NB333_289, NB294_333, NB333_294, NB300_333, NB333_300, -⟩ := n_
               clear hb hbox hg
               refine hK.out _ _ ⟨(blk_cell BK267.out 0).trans rfl, (blk_cell BK267.out 1).trans rfl, (blk_cell BK268.out 0).trans rfl, (blk_cell BK268.out 1).trans rfl⟩ (fun hHeld => ?_)
               clear hK K
               refine norm_ (a' := ?_) ?_ ?_
               rotate_left
               ·show Act.put _ (some 15) _ = _
                simp only [Act.put, List.setIfInBounds_toArray, List.set_cons_zero, List.set_cons_succ, i64_w, i32_w]
                rfl
               refine one_ (i := 1) (N := some 96) #[true, true, true, false, false, false, false, false, true, false, false] rfl rfl (one_of HT_.out (by kernel_rfl)) (by decide) (fun K hK => ?_)
               refine goes_ Try.func25 (by kernel_rfl) rfl #[.agg #[.int .i64 a0_0, .slice A0_1 l0_1.length c0_1]] (by rfl) rfl rfl (by (try simp only [List.map_toArray, List.map_cons, List.map_nil]); first | done | rfl | (simp only [List.length_drop, List.length_take]; rfl)) ?_
               with_reducible refine (laws_toTable.calls kj93 a0_0 _ _ l0_1 t320 t321 _ ?side1 ?side2 A137.out).mono ?_
               (case side1 => repeat (first | exact (Kd.C_below HR0_1.out HB.out) | (with_reducible refine Kd.C_alloc ?_ _) | (with_reducible refine Kd.C_drewN ?_ _) | (with_reducible refine Kd.C_drew ?_)))
               (case side2 => exact HC0_1.out)
               rintro e w143 ⟨v322, rfl, ho0, hb⟩
               refine ⟨_, rfl, ?_⟩
               have n_ := an (Kd.R_elder' (by exact Kd.R_nw HO_285001.out) (Kd.R_base ho0) hb) (an (Kd.R_elder' (by exact Kd.R_nw HO_290001.out) (Kd.R_base ho0) hb) (an (Kd.R_elder' (by exact Kd.R_nw HO_295001.out) (Kd.R_base ho0) hb) (an (Kd.R_elder' (by exact Kd.R_nw HO_301001.out) (Kd.R_base ho0) hb) (an (Kd.R_lower (Kd.R_new' (Kd.R_new' (Kd.R_new' (Kd.R_new' ho0 (Kd.R_lt (by exact Kd.R_nw HO_285001.out))) (Kd.R_lt (by exact Kd.R_nw HO_290001.out))) (Kd.R_lt (by exact Kd.R_nw HO_295001.out))) (Kd.R_lt (by exact Kd.R_nw HO_301001.out))) (below_size (by exact bel0))) (an (blk_below (blk_nw BK267.out) hb) (an (blk_below (blk_nw BK268.out) hb) (an (blk_below (blk_nw BK284.out) hb) (an (blk_below (blk_nw BK289.out) hb) (an (blk_below (blk_nw BK294.out) hb) (an (blk_below (blk_nw BK300.out) hb) (an (blk_below (blk_nw BK333.out) hb) (an (below_step (by exact bel0) hb) (trivial)))))))))))))
               clear HO_285001 HO_290001 HO_295001 HO_301001 BK267 BK268 BK284 BK289 BK294 BK300 BK333 HB
               obtain ⟨HO_285001, HO_290001, HO_295001, HO_301001, HO323, BK267, BK268, BK284, BK289, BK294, BK300, BK333, HB, -⟩ := n_
               (try clear hb); (try clear hb2); (try clear hk); (try clear hi); (try clear ho0)
               refine hK.out _ _ ⟨(blk_cell BK267.out 0).trans rfl, (blk_cell BK267.out 1).trans rfl, (blk_cell BK268.out 0).trans rfl, (blk_cell BK268.out 1).trans rfl⟩ (fun hHeld => ?_)
               clear hK K
               refine norm_ (a' := ?_) ?_ ?_
               rotate_left
               ·show Act.put _ (some 96) _ = _
                simp only [Act.put, List.setIfInBounds_toArray, List.set_cons_zero, List.set_cons_succ, i64_w, i32_w]
                rfl
               refine one_ (i := 3) (N := some 98) #[true, true, true, true, false, false, false, false, true, false, false] rfl rfl (one_of HT_.out (by kernel_rfl)) (by decide) (fun K hK => ?_)
               refine goes_ Try.func25 (by kernel_rfl) rfl #[.agg #[.int .i64 a1_0, .slice A1_1 l1_1.length c1_1]] (by rfl) rfl rfl (by (try simp only [List.map_toArray, List.map_cons, List.map_nil]); first | done | rfl | (simp only [List.length_drop, List.length_take]; rfl)) ?_
               with_reducible refine (laws_toTable.calls kj93 a1_0 _ _ l1_1 t324 t325 _ ?side1 ?side2 A138.out).mono ?_
               (case side1 => repeat (first | exact (Kd.C_below HR1_1.out HB.out) | (with_reducible refine Kd.C_alloc ?_ _) | (with_reducible refine Kd.C_drewN ?_ _) | (with_reducible refine Kd.C_drew ?_)))
               (case side2 => exact HC1_1.out)
               rintro e w144 ⟨v326, rfl, ho0, hb⟩
               refine ⟨_, rfl, ?_⟩
               have n_ := an (Kd.R_elder' (by exact Kd.R_nw HO_285001.out) (Kd.R_base ho0) hb) (an (Kd.R_elder' (by exact Kd.R_nw HO_290001.out) (Kd.R_base ho0) hb) (an (Kd.R_elder' (by exact Kd.R_nw HO_295001.out) (Kd.R_base ho0) hb) (an (Kd.R_elder' (by exact Kd.R_nw HO_301001.out) (Kd.R_base ho0) hb) (an (Kd.R_elder' (by exact Kd.R_nw HO323.out) (Kd.R_base ho0) hb) (an (Kd.R_lower (Kd.R_new' (Kd.R_new' (Kd.R_new' (Kd.R_new' (Kd.R_new' ho0 (Kd.R_lt (by exact Kd.R_nw HO_285001.out))) (Kd.R_lt (by exact Kd.R_nw HO_290001.out))) (Kd.R_lt (by exact Kd.R_nw HO_295001.out))) (Kd.R_lt (by exact Kd.R_nw HO_301001.out))) (Kd.R_lt (by exact Kd.R_nw HO323.out))) (below_size (by exact bel0))) (an (blk_below (blk_nw BK267.out) hb) (an (blk_below (blk_nw BK268.out) hb) (an (blk_below (blk_nw BK284.out) hb) (an (blk_below (blk_nw BK289.out) hb) (an (blk_below (blk_nw BK294.out) hb) (an (blk_below (blk_nw BK300.out) hb) (an (blk_below (blk_nw BK333.out) hb) (an (below_step (by exact bel0) hb) (trivial))))))))))))))
               clear HO_285001 HO_290001 HO_295001 HO_301001 HO323 BK267 BK268 BK284 BK289 BK294 BK300 BK333 HB
               obtain ⟨HO_285001, HO_290001, HO_295001, HO_301001, HO323, HO327, BK267, BK268, BK284, BK289, BK294, BK300, BK333, HB, -⟩ := n_
               (try clear hb); (try clear hb2); (try clear hk); (try clear hi); (try clear ho0)
               obtain ⟨Ao145, co145, eo145⟩ := Kd.R_slice HO323.out
               (first | subst eo145 | (injection eo145 with f1_ f2_ f3_; have f4_ := f1_.symm; have f5_ := f3_.symm; clear f1_ f2_ f3_; subst f4_; subst f5_))
               obtain ⟨Ao146, co146, eo146⟩ := Kd.R_slice HO327.out
               (first | subst eo146 | (injection eo146 with f1_ f2_ f3_; have f4_ := f1_.symm; have f5_ := f3_.symm; clear f1_ f2_ f3_; subst f4_; subst f5_))
               refine hK.out _ _ ⟨(blk_cell BK267.out 0).trans rfl, (blk_cell BK267.out 1).trans rfl, (blk_cell BK268.out 0).trans rfl, (blk_cell BK268.out 1).trans rfl⟩ (fun hHeld => ?_)
               clear hK K
               refine norm_ (a' := ?_) ?_ ?_
               rotate_left
               ·show Act.put _ (some 98) _ = _
                simp only [Act.put, List.setIfInBounds_toArray, List.set_cons_zero, List.set_cons_succ, i64_w, i32_w]
                rfl
               refine one_ (i := 4) (N := some 99) #[true, true, true, true, true, false, false, false, true, false, false] rfl rfl (one_of HT_.out (by kernel_rfl)) (by decide) (fun K hK => ?_)
               refine goes_ Try.func55 (by kernel_rfl) rfl #[.agg #[.int .i64 t320, .slice Ao145 t321.length co145], .agg #[.int .i64 t324, .slice Ao146 t325.length co146]] (by rfl) rfl rfl (by (try simp only [List.map_toArray, List.map_cons, List.map_nil]); first | done | rfl | (simp only [List.length_drop, List.length_take]; rfl)) ?_
               with_reducible refine (impl_Merge.calls kj93 t320 _ _ t321 t324 _ _ t325 t328 t329 t332 _ ?side1 ?side2 ?side3 ?side4 A139.out).mono ?_
               (case side1 => repeat (first | exact (Kd.R_reads' HO323.out).2.2 | (with_reducible refine Kd.C_alloc ?_ _) | (with_reducible refine Kd.C_drewN ?_ _) | (with_reducible refine Kd.C_drew ?_)))
               (case side2 => exact (Kd.R_reads' HO323.out).2.1)
               (case side3 => repeat (first | exact (Kd.R_reads' HO327.out).2.2 | (with_reducible refine Kd.C_alloc ?_ _) | (with_reducible refine Kd.C_drewN ?_ _) | (with_reducible refine Kd.C_drew ?_)))
               (case side4 => exact (Kd.R_reads' HO327.out).2.1)
               rintro e w147 ⟨v330, rfl, ho0, hb⟩
               refine ⟨_, rfl, ?_⟩
               have n_ := an (Kd.R_elder' (by exact Kd.R_nw HO_285001.out) (Kd.R_base ho0) hb) (an (Kd.R_elder' (by exact Kd.R_nw HO_290001.out) (Kd.R_base ho0) hb) (an (Kd.R_elder' (by exact Kd.R_nw HO_295001.out) (Kd.R_base ho0) hb) (an (Kd.R_elder' (by exact Kd.R_nw HO_301001.out) (Kd.R_base ho0) hb) (an (Kd.R_elder' (by exact Kd.R_nw HO323.out) (Kd.R_base ho0) hb) (an (Kd.R_elder' (by exact Kd.R_nw HO327.out) (Kd.R_base ho0) hb) (an (Kd.R_lower (Kd.R_new' (Kd.R_new' (Kd.R_new' (Kd.R_new' (Kd.R_new' (Kd.R_new' ho0 (Kd.R_lt (by exact Kd.R_nw HO_285001.out))) (Kd.R_lt (by exact Kd.R_nw HO_290001.out))) (Kd.R_lt (by exact Kd.R_nw HO_295001.out))) (Kd.R_lt (by exact Kd.R_nw HO_301001.out))) (Kd.R_lt (by exact Kd.R_nw HO323.out))) (Kd.R_lt (by exact Kd.R_nw HO327.out))) (below_size (by exact bel0))) (an (blk_below (blk_nw BK267.out) hb) (an (blk_below (blk_nw BK268.out) hb) (an (blk_below (blk_nw BK284.out) hb) (an (blk_below (blk_nw BK289.out) hb) (an (blk_below (blk_nw BK294.out) hb) (an (blk_below (blk_nw BK300.out) hb) (an (blk_below (blk_nw BK333.out) hb) (an (below_step (by exact bel0) hb) (trivial)))))))))))))))
               clear HO_285001 HO_290001 HO_295001 HO_301001 HO323 HO327 BK267 BK268 BK284 BK289 BK294 BK300 BK333 HB
               obtain ⟨HO_285001, HO_290001, HO_295001, HO_301001, HO323, HO327, HO331, BK267, BK268, BK284, BK289, BK294, BK300, BK333, HB, -⟩ := n_
               (try clear hb); (try clear hb2); (try clear hk); (try clear hi); (try clear ho0)
               refine hK.out _ _ ⟨(blk_cell BK267.out 0).trans rfl, (blk_cell BK267.out 1).trans rfl, (blk_cell BK268.out 0).trans rfl, (blk_cell BK268.out 1).trans rfl⟩ (fun hHeld => ?_)
               clear hK K
               refine norm_ (a' := ?_) ?_ ?_
               rotate_left
               ·show Act.put _ (some 99) _ = _
                simp only [Act.put, List.setIfInBounds_toArray, List.set_cons_zero, List.set_cons_succ, i64_w, i32_w]
                rfl
               refine pure_ (i := 5) (N := some 94) (v := ?_) (a' := ?_) #[true, true, true, true, true, true, false, false, true, false, false] rfl rfl (any_of HT_.out (by kernel_rfl)) (fun _ _ _ h => h) (Or.inl ⟨by rfl, ?_⟩) ?_ ?_
               rotate_left; · intro w'; go_simp; with_reducible rfl
               rotate_left; · simp only [Act.put, List.setIfInBounds_toArray, List.set_cons_zero, List.set_cons_succ, i64_w, i32_w]; rfl
               refine pure_ (i := 6) (N := some 100) (v := ?_) (a' := ?_) #[true, true, true, true, true, true, true, false, true, false, false] rfl rfl (any_of HT_.out (by kernel_rfl)) (fun _ _ _ h => h) (Or.inl ⟨by rfl, ?_⟩) ?_ ?_
               rotate_left; · intro w'; go_simp; with_reducible rfl
               rotate_left; · simp only [Act.put, List.setIfInBounds_toArray, List.set_cons_zero, List.set_cons_succ, i64_w, i32_w]; rfl
               refine pure_ (i := 7) (N := some 101) (v := ?_) (a' := ?_) #[true, true, true, true, true, true, true, true, true, false, false] rfl rfl (any_of HT_.out (by kernel_rfl)) (fun _ _ _ h => h) (Or.inl ⟨by rfl, ?_⟩) ?_ ?_
               rotate_left; · intro w'; go_simp; with_reducible rfl
               rotate_left; · simp only [Act.put, List.setIfInBounds_toArray, List.set_cons_zero, List.set_cons_succ, i64_w, i32_w]; rfl
               exact norm_ (by simp only [putAll, Act.put, List.setIfInBounds_toArray, List.set_cons_zero, List.set_cons_succ]) (hCont (.slice Ao145 t321.length co145, .slice Ao146 t325.length co146, v330, gb333) _ ⟨hHeld, (by exact Kd.R_nw (Kd.R_mono HO323.out (fun _ hk => ⟨hk.1.2, ⟨hk.2, ⟨hk.1.1.1.1.1.2, ⟨hk.1.1.1.1.2, ⟨hk.1.1.1.2, hk.1.1.2⟩⟩⟩⟩⟩))), (by exact Kd.R_nw (Kd.R_mono HO327.out (fun _ hk => ⟨hk.1.2, ⟨hk.2, ⟨hk.1.1.1.1.1.2, ⟨hk.1.1.1.1.2, ⟨hk.1.1.1.2, hk.1.1.2⟩⟩⟩⟩⟩))), (by exact Kd.R_nw (Kd.R_mono HO331.out (fun _ hk => ⟨hk.1.2, ⟨hk.2, ⟨hk.1.1.1.1.1.2, ⟨hk.1.1.1.1.2, ⟨hk.1.1.1.2, hk.1.1.2⟩⟩⟩⟩⟩))), (by exact Kd.R_nw (Kd.R_mono HO_285001.out (fun _ hk => ⟨hk.1.1.2, ⟨hk.1.2, ⟨hk.2, ⟨hk.1.1.1.1, ⟨hk.1.1.1.2.1, hk.1.1.1.2.2⟩⟩⟩⟩⟩))), (by exact Kd.R_nw (Kd.R_mono HO_290001.out (fun _ hk => ⟨hk.1.1.2, ⟨hk.1.2, ⟨hk.2, ⟨hk.1.1.1.1, ⟨hk.1.1.1.2.1, hk.1.1.1.2.2⟩⟩⟩⟩⟩))), (by exact Kd.R_nw (Kd.R_mono HO_295001.out (fun _ hk => ⟨hk.1.1.2, ⟨hk.1.2, ⟨hk.2, ⟨hk.1.1.1.1, ⟨hk.1.1.1.2.1, hk.1.1.1.2.2⟩⟩⟩⟩⟩))), (by exact Kd.R_nw (Kd.R_mono HO_301001.out (fun _ hk => ⟨hk.1.1.2, ⟨hk.1.2, ⟨hk.2, ⟨hk.1.1.1.1, ⟨hk.1.1.1.2.1, hk.1.1.1.2.2⟩⟩⟩⟩⟩))), (by exact blk_nw BK267.out), (by exact blk_nw BK268.out), (by exact blk_nw BK284.out), (by exact blk_nw BK289.out), (by exact blk_nw BK294.out), (by exact blk_nw BK300.out), (by exact blk_nw BK333.out), GW333.out, GE333.out, NB267_333.out, NB333_267.out, NB268_333.out, NB333_268.out, NB284_333.out, NB333_284.out, NB289_333.out, NB333_289.out, NB294_333.out, NB333_294.out, NB300_333.out, NB333_300.out, (by exact bel0)⟩)
             rintro ⟨v322, v326, v330, gb333⟩ w148 ⟨hS_, h0_, h1_, h2_, h3_, h4_, h5_, h6_, h7_, h8_, h9_, h10_, h11_, h12_, h13_, h14_, h15_, h16_, h17_, h18_, h19_, h20_, h21_, h22_, h23_, h24_, h25_, h26_, h27_, h28_⟩
             have n0_ : Aside0 (Kd.R k82 82 w148 w.heap.size (fun k_ => some k_ ≠ (v326 : Value).ownBlock ∧ some k_ ≠ (v330 : Value).ownBlock ∧ some k_ ≠ (.slice Ao31 t280.length co31 : Value).ownBlock ∧ some k_ ≠ (.slice Ao42 t313.length co42 : Value).ownBlock ∧ some k_ ≠ (.slice Ao52 t315.length co52 : Value).ownBlock ∧ some k_ ≠ (.slice Ao62 t296.length co62 : Value).ownBlock) v322 t321) := ⟨h0_⟩
             have n1_ : Aside0 (Kd.R k82 82 w148 w.heap.size (fun k_ => some k_ ≠ (v322 : Value).ownBlock ∧ some k_ ≠ (v330 : Value).ownBlock ∧ some k_ ≠ (.slice Ao31 t280.length co31 : Value).ownBlock ∧ some k_ ≠ (.slice Ao42 t313.length co42 : Value).ownBlock ∧ some k_ ≠ (.slice Ao52 t315.length co52 : Value).ownBlock ∧ some k_ ≠ (.slice Ao62 t296.length co62 : Value).ownBlock) v326 t325) := ⟨h1_⟩
             have n2_ : Aside0 (Kd.R k82 82 w148 w.heap.size (fun k_ => some k_ ≠ (v322 : Value).ownBlock ∧ some k_ ≠ (v326 : Value).ownBlock ∧ some k_ ≠ (.slice Ao31 t280.length co31 : Value).ownBlock ∧ some k_ ≠ (.slice Ao42 t313.length co42 : Value).ownBlock ∧ some k_ ≠ (.slice Ao52 t315.length co52 : Value).ownBlock ∧ some k_ ≠ (.slice Ao62 t296.length co62 : Value).ownBlock) v330 t329) := ⟨h2_⟩
             have n3_ : Aside0 (Kd.R k82 82 w148 w.heap.size (fun k_ => some k_ ≠ (v322 : Value).ownBlock ∧ some k_ ≠ (v326 : Value).ownBlock ∧ some k_ ≠ (v330 : Value).ownBlock ∧ some k_ ≠ (.slice Ao42 t313.length co42 : Value).ownBlock ∧ some k_ ≠ (.slice Ao52 t315.length co52 : Value).ownBlock ∧ some k_ ≠ (.slice Ao62 t296.length co62 : Value).ownBlock) (.slice Ao31 t280.length co31) t280) := ⟨h3_⟩
             have n4_ : Aside0 (Kd.R k82 82 w148 w.heap.size (fun k_ => some k_ ≠ (v322 : Value).ownBlock ∧ some k_ ≠ (v326 : Value).ownBlock ∧ some k_ ≠ (v330 : Value).ownBlock ∧ some k_ ≠ (.slice Ao31 t280.length co31 : Value).ownBlock ∧ some k_ ≠ (.slice Ao52 t315.length co52 : Value).ownBlock ∧ some k_ ≠ (.slice Ao62 t296.length co62 : Value).ownBlock) (.slice Ao42 t313.length co42) t313) := ⟨h4_⟩
             have n5_ : Aside0 (Kd.R k82 82 w148 w.heap.size (fun k_ => some k_ ≠ (v322 : Value).ownBlock ∧ some k_ ≠ (v326 : Value).ownBlock ∧ some k_ ≠ (v330 : Value).ownBlock ∧ some k_ ≠ (.slice Ao31 t280.length co31 : Value).ownBlock ∧ some k_ ≠ (.slice Ao42 t313.length co42 : Value).ownBlock ∧ some k_ ≠ (.slice Ao62 t296.length co62 : Value).ownBlock) (.slice Ao52 t315.length co52) t315) := ⟨h5_⟩
             have n6_ : Aside0 (Kd.R k82 82 w148 w.heap.size (fun k_ => some k_ ≠ (v322 : Value).ownBlock ∧ some k_ ≠ (v326 : Value).ownBlock ∧ some k_ ≠ (v330 : Value).ownBlock ∧ some k_ ≠ (.slice Ao31 t280.length co31 : Value).ownBlock ∧ some k_ ≠ (.slice Ao42 t313.length co42 : Value).ownBlock ∧ some k_ ≠ (.slice Ao52 t315.length co52 : Value).ownBlock) (.slice Ao62 t296.length co62) t318) := ⟨h6_⟩
             have n7_ : Aside0 (w148.heap[gb267]? = some (.cells #[.int .i64 a0_0, .slice A0_1 l0_1.length c0_1] 37 (0, 0))) := ⟨h7_⟩
             have n8_ : Aside0 (w148.heap[gb268]? = some (.cells #[.int .i64 a1_0, .slice A1_1 l1_1.length c1_1] 37 (0, 0))) := ⟨h8_⟩
             have n9_ : Aside0 (w148.heap[gb284]? = some (.cells #[.int .i64 t279, .slice Ao31 t280.length co31] 41 (0, 0))) := ⟨h9_⟩
             have n10_ : Aside0 (w148.heap[gb289]? = some (.cells #[.int .i64 t285, .slice Ao42 t313.length co42] 41 (0, 0))) := ⟨h10_⟩
             have n11_ : Aside0 (w148.heap[gb294]? = some (.cells #[.int .i64 t290, .slice Ao52 t315.length co52] 41 (0, 0))) := ⟨h11_⟩
             have n12_ : Aside0 (w148.heap[gb300]? = some (.cells #[.int .i64 t295, .slice Ao62 t296.length co62] 41 (0, 0))) := ⟨h12_⟩
             have n13_ : Aside0 (w148.heap[gb333]? = some (.cells #[.int .i64 0, .slice none 0 0] 41 (0, 0))) := ⟨h13_⟩
             have n14_ : Aside0 (w.heap.size ≤ gb333) := ⟨h14_⟩
             have n15_ : Aside0 (w.heap.size ≤ gb333) := ⟨h15_⟩
             have n16_ : Aside0 (gb267 ≠ gb333) := ⟨h16_⟩
             have n17_ : Aside0 (gb333 ≠ gb267) := ⟨h17_⟩
             have n18_ : Aside0 (gb268 ≠ gb333) := ⟨h18_⟩
             have n19_ : Aside0 (gb333 ≠ gb268) := ⟨h19_⟩
             have n20_ : Aside0 (gb284 ≠ gb333) := ⟨h20_⟩
             have n21_ : Aside0 (gb333 ≠ gb284) := ⟨h21_⟩
             have n22_ : Aside0 (gb289 ≠ gb333) := ⟨h22_⟩
             have n23_ : Aside0 (gb333 ≠ gb289) := ⟨h23_⟩
             have n24_ : Aside0 (gb294 ≠ gb333) := ⟨h24_⟩
             have n25_ : Aside0 (gb333 ≠ gb294) := ⟨h25_⟩
             have n26_ : Aside0 (gb300 ≠ gb333) := ⟨h26_⟩
             have n27_ : Aside0 (gb333 ≠ gb300) := ⟨h27_⟩
             have n28_ : Aside0 (Below w.heap.size w w148) := ⟨h28_⟩
             clear HO_285001; clear HO_290001; clear HO_295001; clear HO_301001; clear BK267; clear BK268; clear BK284; clear BK289; clear BK294; clear BK300; clear HB; clear h0_ h1_ h2_ h3_ h4_ h5_ h6_ h7_ h8_ h9_ h10_ h11_ h12_ h13_ h14_ h15_ h16_ h17_ h18_ h19_ h20_ h21_ h22_ h23_ h24_ h25_ h26_ h27_ h28_
             have HO323 := n0_
             have HO327 := n1_
             have HO331 := n2_
             have HO_285001 := n3_
             have HO_290001 := n4_
             have HO_295001 := n5_
             have HO_301001 := n6_
             have BK267 := n7_
             have BK268 := n8_
             have BK284 := n9_
             have BK289 := n10_
             have BK294 := n11_
             have BK300 := n12_
             have BK333 := n13_
             have GW333 := n14_
             have GE333 := n15_
             have NB267_333 := n16_
             have NB333_267 := n17_
             have NB268_333 := n18_
             have NB333_268 := n19_
             have NB284_333 := n20_
             have NB333_284 := n21_
             have NB289_333 := n22_
             have NB333_289 := n23_
             have NB294_333 := n24_
             have NB333_294 := n25_
             have NB300_333 := n26_
             have NB333_300 := n27_
             have HB := n28_
             clear n0_ n1_ n2_ n3_ n4_ n5_ n6_ n7_ n8_ n9_ n10_ n11_ n12_ n13_ n14_ n15_ n16_ n17_ n18_ n19_ n20_ n21_ n22_ n23_ n24_ n25_ n26_ n27_ n28_
             have hHeld : w148.cell? ⟨gb267, 0, none⟩ = some (.int .i64 a0_0) ∧ w148.cell? ⟨gb267, 1, none⟩ = some (.slice A0_1 l0_1.length c0_1) ∧ w148.cell? ⟨gb268, 0, none⟩ = some (.int .i64 a1_0) ∧ w148.cell? ⟨gb268, 1, none⟩ = some (.slice A1_1 l1_1.length c1_1) := hS_
             obtain ⟨Ao150, co150, eo150⟩ := Kd.R_slice HO331.out
             (first | subst eo150 | (injection eo150 with f1_ f2_ f3_; have f4_ := f1_.symm; have f5_ := f3_.symm; clear f1_ f2_ f3_; subst f4_; subst f5_))
             refine norm_ (a' := ?_) ?_ ?_
             rotate_left; · simp only [putAll, Act.put, List.setIfInBounds_toArray, List.set_cons_zero, List.set_cons_succ]; rfl
             refine one_ (i := 9) (N := none) #[true, true, true, true, true, true, true, true, true, true, false] rfl rfl (one_of HT_.out (by kernel_rfl)) (by decide) (fun K hK => ?_)
             have hs149 : w148.cell? ⟨gb333, 0, none⟩ = some (.int .i64 0) := (blk_cell BK333.out 0).trans rfl
             have hfs149 := blk_frozen BK333.out 0
             have hns149_0 := NB267_333.out; have hns149_1 := NB268_333.out; have hns149_2 := NB284_333.out; have hns149_3 := NB289_333.out; have hns149_4 := NB294_333.out; have hns149_5 := NB300_333.out; have hms149_0 := NB333_267.out; have hms149_1 := NB333_268.out; have hms149_2 := NB333_284.out; have hms149_3 := NB333_289.out; have hms149_4 := NB333_294.out; have hms149_5 := NB333_300.out
             have hs151 : w148.cell? ⟨gb333, 1, none⟩ = some (.slice none 0 0) := (blk_cell BK333.out 1).trans rfl
             have hfs151 := blk_frozen BK333.out 1
             have hns151_0 := NB267_333.out; have hns151_1 := NB268_333.out; have hns151_2 := NB284_333.out; have hns151_3 := NB289_333.out; have hns151_4 := NB294_333.out; have hns151_5 := NB300_333.out; have hms151_0 := NB333_267.out; have hms151_1 := NB333_268.out; have hms151_2 := NB333_284.out; have hms151_3 := NB333_289.out; have hms151_4 := NB333_294.out; have hms151_5 := NB333_300.out
             refine skip_ (w1 := ?_) (by rfl) rfl ?_ ?_
             rotate_left
             ·go_simp
              rfl
             refine hK.out _ _ ⟨((cell_far (p := ⟨gb333, _, none⟩) NB267_333.out _).trans (((cell_far (p := ⟨gb333, _, none⟩) NB267_333.out _).trans (hHeld.1)))), ((cell_far (p := ⟨gb333, _, none⟩) NB267_333.out _).trans (((cell_far (p := ⟨gb333, _, none⟩) NB267_333.out _).trans (hHeld.2.1)))), ((cell_far (p := ⟨gb333, _, none⟩) NB268_333.out _).trans (((cell_far (p := ⟨gb333, _, none⟩) NB268_333.out _).trans (hHeld.2.2.1)))), ((cell_far (p := ⟨gb333, _, none⟩) NB268_333.out _).trans (((cell_far (p := ⟨gb333, _, none⟩) NB268_333.out _).trans (hHeld.2.2.2))))⟩ (fun hHeld => ?_)
             clear hK K
             refine pure_ (i := 10) (N := some 16) (v := ?_) (a' := ?_) #[true, true, true, true, true, true, true, true, true, true, true] rfl rfl (any_of HT_.out (by kernel_rfl)) (fun _ _ _ h => h) (Or.inl ⟨by rfl, ?_⟩) ?_ ?_
             rotate_left; · intro w'; go_simp; with_reducible rfl
             rotate_left; · simp only [Act.put, List.setIfInBounds_toArray, List.set_cons_zero, List.set_cons_succ, i64_w, i32_w]; rfl
             refine done_ (done_of HT_.out (by kernel_rfl)) ?_
             go_upto_region 32 with (fail)
             go_cut [110] (fun v110 wc => ∃ (kq : Nat) (x110_139 : Bool), v110 = .bool x110_139 ∧ Aside0 (laws_FnExactMerge.j2 kq t317 x110_139 t295 t318 = some r) ∧ Aside0 (kq ≤ kj93) ∧ Aside0 (Kd.R k82 82 wc w.heap.size (fun k_ => some k_ ≠ ((.slice Ao42 t313.length co42) : Value).ownBlock ∧ some k_ ≠ ((.slice Ao52 t315.length co52) : Value).ownBlock ∧ some k_ ≠ ((.slice Ao62 t296.length co62) : Value).ownBlock ∧ some k_ ≠ ((.slice Ao150 t329.length co150) : Value).ownBlock) (.slice Ao31 t280.length co31) t280) ∧ Aside0 (Kd.R k82 82 wc w.heap.size (fun k_ => some k_ ≠ ((.slice Ao31 t280.length co31) : Value).ownBlock ∧ some k_ ≠ ((.slice Ao52 t315.length co52) : Value).ownBlock ∧ some k_ ≠ ((.slice Ao62 t296.length co62) : Value).ownBlock ∧ some k_ ≠ ((.slice Ao150 t329.length co150) : Value).ownBlock) (.slice Ao42 t313.length co42) t313) ∧ Aside0 (Kd.R k82 82 wc w.heap.size (fun k_ => some k_ ≠ ((.slice Ao31 t280.length co31) : Value).ownBlock ∧ some k_ ≠ ((.slice Ao42 t313.length co42) : Value).ownBlock ∧ some k_ ≠ ((.slice Ao62 t296.length co62) : Value).ownBlock ∧ some k_ ≠ ((.slice Ao150 t329.length co150) : Value).ownBlock) (.slice Ao52 t315.length co52) t315) ∧ Aside0 (Kd.R k82 82 wc w.heap.size (fun k_ => some k_ ≠ ((.slice Ao31 t280.length co31) : Value).ownBlock ∧ some k_ ≠ ((.slice Ao42 t313.length co42) : Value).ownBlock ∧ some k_ ≠ ((.slice Ao52 t315.length co52) : Value).ownBlock ∧ some k_ ≠ ((.slice Ao150 t329.length co150) : Value).ownBlock) (.slice Ao62 t296.length co62) t318) ∧ Aside0 (Kd.R k82 82 wc w.heap.size (fun k_ => some k_ ≠ ((.slice Ao31 t280.length co31) : Value).ownBlock ∧ some k_ ≠ ((.slice Ao42 t313.length co42) : Value).ownBlock ∧ some k_ ≠ ((.slice Ao52 t315.length co52) : Value).ownBlock ∧ some k_ ≠ ((.slice Ao62 t296.length co62) : Value).ownBlock) (.slice Ao150 t329.length co150) t329) ∧ Aside0 (wc.heap[gb267]? = some (.cells #[.int .i64 a0_0, (.slice A0_1 l0_1.length c0_1)] 37 (0, 0))) ∧ Aside0 (wc.heap[gb268]? = some (.cells #[.int .i64 a1_0, (.slice A1_1 l1_1.length c1_1)] 37 (0, 0))) ∧ Aside0 (wc.heap[gb284]? = some (.cells #[.int .i64 t279, (.slice Ao31 t280.length co31)] 41 (0, 0))) ∧ Aside0 (wc.heap[gb289]? = some (.cells #[.int .i64 t285, (.slice Ao42 t313.length co42)] 41 (0, 0))) ∧ Aside0 (wc.heap[gb294]? = some (.cells #[.int .i64 t290, (.slice Ao52 t315.length co52)] 41 (0, 0))) ∧ Aside0 (wc.heap[gb300]? = some (.cells #[.int .i64 t295, (.slice Ao62 t296.length co62)] 41 (0, 0))) ∧ Aside0 (wc.heap[gb333]? = some (.cells #[.int .i64 t328, (.slice Ao150 t329.length co150)] 41 (0, 0))) ∧ Aside0 (Below w.heap.size w wc))
             case first =>
              have H := HC140.out; clear HC140; replace H := Option.bind_eq_some_iff.mp H; obtain ⟨t334, A1520, H⟩ := H; have A152 := Aside0.mk A1520; clear A1520; have hnb153 := NB333_267.out; have hnc153 := NB267_333.out; have hnb154 := NB333_268.out; have hnc154 := NB268_333.out; have hnb155 := NB333_284.out; have hnc155 := NB284_333.out; have hnb156 := NB333_289.out; have hnc156 := NB289_333.out; have hnb157 := NB333_294.out; have hnc157 := NB294_333.out; have hnb158 := NB333_300.out; have hnc158 := NB300_333.out; obtain ⟨hcz159_0, hcz159_1⟩ := blkz2 BK333.out; have hfz159_0 := blkf BK333.out; have hnb160 := NB284_267.out; have hnc160 := NB267_284.out; have hnb161 := NB284_268.out; have hnc161 := NB268_284.out; have hnb162 := NB284_289.out; have hnc162 := NB289_284.out; have hnb163 := NB284_294.out; have hnc163 := NB294_284.out; have hnb164 := NB284_300.out; have hnc164 := NB300_284.out; obtain ⟨hcz165_0, hcz165_1⟩ := blkz2 BK284.out; have hfz165_0 := blkf BK284.out
              replace H := Aside0.mk H
              go_wp2_with (first | ((with_reducible refine gate_callee (f := 27) rfl ?_); refine goesL_ (some 104) rfl rfl Try.func27 (by kernel_rfl) rfl #[.agg #[.int .i64 t328, .slice Ao150 t329.length co150], .agg #[.int .i64 t279, .slice Ao31 t280.length co31]] rfl (by (try simp only [List.map_toArray, List.map_cons, List.map_nil]); first | done | rfl | (simp only [List.length_drop, List.length_take]; rfl)) ?_; (with_reducible refine (laws_eqTable.calls kj93 t328 _ _ t329 t279 _ _ t280 t334 _ ?side1 ?side2 ?side3 ?side4 A152.out).mono ?_); (case side1 => refine (Kd.R_reads' (e := 82) (base := w.heap.size) (ok := fun k_ => (some k_ ≠ (v322 : Value).ownBlock ∧ (some k_ ≠ (v326 : Value).ownBlock ∧ (some k_ ≠ (.slice Ao31 t280.length co31 : Value).ownBlock ∧ (some k_ ≠ (.slice Ao42 t313.length co42 : Value).ownBlock ∧ (some k_ ≠ (.slice Ao52 t315.length co52 : Value).ownBlock ∧ some k_ ≠ (.slice Ao62 t296.length co62 : Value).ownBlock)))))) (n := t329.length) (c := co150) ?_).2.2; exact (by exact (Kd.R_farN HO331.out BK333.out))); (case side2 => exact (Kd.R_reads' HO331.out).2.1); (case side3 => refine (Kd.R_reads' (e := 82) (base := w.heap.size) (ok := fun k_ => (some k_ ≠ (v322 : Value).ownBlock ∧ (some k_ ≠ (v326 : Value).ownBlock ∧ (some k_ ≠ (.slice Ao150 t329.length co150 : Value).ownBlock ∧ (some k_ ≠ (.slice Ao42 t313.length co42 : Value).ownBlock ∧ (some k_ ≠ (.slice Ao52 t315.length co52 : Value).ownBlock ∧ some k_ ≠ (.slice Ao62 t296.length co62 : Value).ownBlock)))))) (n := t280.length) (c := co31) ?_).2.2; exact (by exact (Kd.R_farN HO_285001.out BK333.out))); (case side4 => exact (Kd.R_reads' HO_285001.out).2.1); rintro e w166 ⟨rfl, hb⟩; refine ⟨_, rfl, ?_⟩; have n_ := an (Kd.R_below (by exact (Kd.R_farN HO_285001.out BK333.out)) hb) (an (Kd.R_below (by exact (Kd.R_farN HO_290001.out BK333.out)) hb) (an (Kd.R_below (by exact (Kd.R_farN HO_295001.out BK333.out)) hb) (an (Kd.R_below (by exact (Kd.R_farN HO_301001.out BK333.out)) hb) (an (Kd.R_below (by exact (Kd.R_farN HO323.out BK333.out)) hb) (an (Kd.R_below (by exact (Kd.R_farN HO327.out BK333.out)) hb) (an (Kd.R_below (by exact (Kd.R_farN HO331.out BK333.out)) hb) (an (blk_below (blk_kb BK267.out NB267_333.out) hb) (an (blk_below (blk_kb BK268.out NB268_333.out) hb) (an (blk_below (blk_kb BK284.out NB284_333.out) hb) (an (blk_below (blk_kb BK289.out NB289_333.out) hb) (an (blk_below (blk_kb BK294.out NB294_333.out) hb) (an (blk_below (blk_kb BK300.out NB300_333.out) hb) (an (blk_below (g := gb333) (o := .cells #[.int .i64 t328, .slice Ao150 t329.length co150] 41 (0, 0)) (by (with_reducible repeat (first | refine blk_drewN ?_ _ | refine blk_drew ?_ | refine blk_alloc ?_ _)); exact blk_fill2 BK333.out) hb) (an (below_step (by exact bel0) hb) (trivial))))))))))))))); clear HO_285001 HO_290001 HO_295001 HO_301001 HO323 HO327 HO331 BK267 BK268 BK284 BK289 BK294 BK300 BK333 HB; obtain ⟨HO_285001, HO_290001, HO_295001, HO_301001, HO323, HO327, HO331, BK267, BK268, BK284, BK289, BK294, BK300, BK333, HB, -⟩ := n_; (try clear hb); (try clear hb2); (try clear hk); (try clear hi); refine Stop.out ?_))
              refine Stop.mk ?_
              replace H := H.out
              by_cases c167 : t334 = true
              ·subst c167; rw [if_pos rfl] at H
               have H' := Aside0.mk H
               clear H
               go_wp2
               go_meet
               case rel => exact ⟨_, ((t332 != t283)), (by first | rfl | (simp; done) | (simp [*]; done)), H', ⟨by have := HJ20.out; have := HJ93.out; first | omega | exact Nat.le_refl _⟩, ⟨by (try simp only [hl290001_93]); (try simp only [hl295001_93]); exact Kd.R_nw (Kd.R_mono HO_285001.out (fun _ hk => ⟨hk.2.2.2.1, ⟨hk.2.2.2.2.1, ⟨hk.2.2.2.2.2, hk.2.2.1⟩⟩⟩))⟩, ⟨by (try simp only [hl290001_93]); (try simp only [hl295001_93]); exact Kd.R_nw (Kd.R_mono HO_290001.out (fun _ hk => ⟨hk.2.2.2.1, ⟨hk.2.2.2.2.1, ⟨hk.2.2.2.2.2, hk.2.2.1⟩⟩⟩))⟩, ⟨by (try simp only [hl290001_93]); (try simp only [hl295001_93]); exact Kd.R_nw (Kd.R_mono HO_295001.out (fun _ hk => ⟨hk.2.2.2.1, ⟨hk.2.2.2.2.1, ⟨hk.2.2.2.2.2, hk.2.2.1⟩⟩⟩))⟩, ⟨by (try simp only [hl290001_93]); (try simp only [hl295001_93]); exact Kd.R_nw (Kd.R_mono HO_301001.out (fun _ hk => ⟨hk.2.2.2.1, ⟨hk.2.2.2.2.1, ⟨hk.2.2.2.2.2, hk.2.2.1⟩⟩⟩))⟩, ⟨by (try simp only [hl290001_93]); (try simp only [hl295001_93]); exact Kd.R_nw (Kd.R_mono HO331.out (fun _ hk => ⟨hk.2.2.1, ⟨hk.2.2.2.1, ⟨hk.2.2.2.2.1, hk.2.2.2.2.2⟩⟩⟩))⟩, ⟨by (try simp only [hl290001_93]); (try simp only [hl295001_93]); exact blk_nw BK267.out⟩, ⟨by (try simp only [hl290001_93]); (try simp only [hl295001_93]); exact blk_nw BK268.out⟩, ⟨by (try simp only [hl290001_93]); (try simp only [hl295001_93]); exact blk_nw BK284.out⟩, ⟨by (try simp only [hl290001_93]); (try simp only [hl295001_93]); exact blk_nw BK289.out⟩, ⟨by (try simp only [hl290001_93]); (try simp only [hl295001_93]); exact blk_nw BK294.out⟩, ⟨by (try simp only [hl290001_93]); (try simp only [hl295001_93]); exact blk_nw BK300.out⟩, ⟨by (try simp only [hl290001_93]); (try simp only [hl295001_93]); exact blk_nw BK333.out⟩, ⟨by exact bel0⟩⟩
              ·replace c167 := Bool.eq_false_iff.mpr c167
               subst c167
               rw [if_neg (show ¬ (false = true) by decide)] at H
               have H' := Aside0.mk H
               clear H
               go_wp2
               go_meet
               case rel => exact ⟨_, (true), (by first | rfl | (simp; done) | (simp [*]; done)), H', ⟨by have := HJ20.out; have := HJ93.out; first | omega | exact Nat.le_refl _⟩, ⟨by (try simp only [hl290001_93]); (try simp only [hl295001_93]); exact Kd.R_nw (Kd.R_mono HO_285001.out (fun _ hk => ⟨hk.2.2.2.1, ⟨hk.2.2.2.2.1, ⟨hk.2.2.2.2.2, hk.2.2.1⟩⟩⟩))⟩, ⟨by (try simp only [hl290001_93]); (try simp only [hl295001_93]); exact Kd.R_nw (Kd.R_mono HO_290001.out (fun _ hk => ⟨hk.2.2.2.1, ⟨hk.2.2.2.2.1, ⟨hk.2.2.2.2.2, hk.2.2.1⟩⟩⟩))⟩, ⟨by (try simp only [hl290001_93]); (try simp only [hl295001_93]); exact Kd.R_nw (Kd.R_mono HO_295001.out (fun _ hk => ⟨hk.2.2.2.1, ⟨hk.2.2.2.2.1, ⟨hk.2.2.2.2.2, hk.2.2.1⟩⟩⟩))⟩, ⟨by (try simp only [hl290001_93]); (try simp only [hl295001_93]); exact Kd.R_nw (Kd.R_mono HO_301001.out (fun _ hk => ⟨hk.2.2.2.1, ⟨hk.2.2.2.2.1, ⟨hk.2.2.2.2.2, hk.2.2.1⟩⟩⟩))⟩, ⟨by (try simp only [hl290001_93]); (try simp only [hl295001_93]); exact Kd.R_nw (Kd.R_mono HO331.out (fun _ hk => ⟨hk.2.2.1, ⟨hk.2.2.2.1, ⟨hk.2.2.2.2.1, hk.2.2.2.2.2⟩⟩⟩))⟩, ⟨by (try simp only [hl290001_93]); (try simp only [hl295001_93]); exact blk_nw BK267.out⟩, ⟨by (try simp only [hl290001_93]); (try simp only [hl295001_93]); exact blk_nw BK268.out⟩, ⟨by (try simp only [hl290001_93]); (try simp only [hl295001_93]); exact blk_nw BK284.out⟩, ⟨by (try simp only [hl290001_93]); (try simp only [hl295001_93]); exact blk_nw BK289.out⟩, ⟨by (try simp only [hl290001_93]); (try simp only [hl295001_93]); exact blk_nw BK294.out⟩, ⟨by (try simp only [hl290001_93]); (try simp only [hl295001_93]); exact blk_nw BK300.out⟩, ⟨by (try simp only [hl290001_93]); (try simp only [hl295001_93]); exact blk_nw BK333.out⟩, ⟨by exact bel0⟩⟩
             case rest =>
              clear HC140; try clear c1; try clear c2; try clear p2; try clear c5; try clear c15; try clear c16; try clear c25; try clear c27; try clear c55; try clear c153; try clear c154; try clear c155; try clear c156; try clear c157; try clear c158; try clear c160; try clear c161; try clear c162; try clear c163; try clear c164; try clear c167; try clear hcz159_0; try clear hcz159_1; try clear hcz165_0; try clear hcz165_1; try clear hfz159_0; try clear hfz159_1; try clear hfz165_0; try clear hfz165_1
              obtain ⟨kq, x110_139, rfl, HA, HJ139, HO_285001, HO_290001, HO_295001, HO_301001, HO_334001, BK267, BK268, BK284, BK289, BK294, BK300, BK333, HB⟩ := hcut
              have hl301001_139 := (Kd.R_reads' HO_301001.out).1
              rw [hl301001_139] at HO_301001
              (try simp only [hl301001_139])
              (try simp only [hl301001_139] at BK267)
              (try simp only [hl301001_139] at BK268)
              (try simp only [hl301001_139] at BK284)
              (try simp only [hl301001_139] at BK289)
              (try simp only [hl301001_139] at BK294)
              (try simp only [hl301001_139] at BK300)
              (try simp only [hl301001_139] at BK333)
              (try simp only [hl301001_139] at HO_285001)
              (try simp only [hl301001_139] at HO_290001)
              (try simp only [hl301001_139] at HO_295001)
              (try simp only [hl301001_139] at HO_334001)
              cases kq with
              | zero => exact absurd HA.out (by simp [laws_FnExactMerge.j2])
              | succ kj139 =>
               have H := HA.out; clear HA
               simp only [laws_FnExactMerge.j2] at H
               by_cases c168 : x110_139 = true
               ·subst c168; rw [if_pos rfl] at H
                obtain rfl := Option.some.inj H
                go_wp2
                go_ret
                exact ⟨by first | rfl | (simp [errW_none, errW_some] <;> rfl) | (simp [*, errW_none, errW_some] <;> rfl), by exact bel0⟩
               ·replace c168 := Bool.eq_false_iff.mpr c168
                subst c168
                rw [if_neg (show ¬ (false = true) by decide)] at H
                replace H := Option.bind_eq_some_iff.mp H; obtain ⟨t335, A1690, H⟩ := H; have A169 := Aside0.mk A1690; clear A1690; have hnb170 := NB300_267.out; have hnc170 := NB267_300.out; have hnb171 := NB300_268.out; have hnc171 := NB268_300.out; have hnb172 := NB300_284.out; have hnc172 := NB284_300.out; have hnb173 := NB300_289.out; have hnc173 := NB289_300.out; have hnb174 := NB300_294.out; have hnc174 := NB294_300.out; have hnb175 := NB300_333.out; have hnc175 := NB333_300.out; obtain ⟨hcz176_0, hcz176_1⟩ := blkz2 BK300.out; have hfz176_0 := blkf BK300.out
                replace H := Aside0.mk H
                go_wp2_with (first | ((with_reducible refine gate_callee (f := 29) rfl ?_); refine goesL_ (some 113) rfl rfl Try.func29 (by kernel_rfl) rfl #[.agg #[.int .i64 t295, .slice Ao62 t318.length co62], .int .i64 1] rfl (by (try simp only [List.map_toArray, List.map_cons, List.map_nil]); first | done | rfl | (simp only [List.length_drop, List.length_take]; rfl)) ?_; (with_reducible refine (laws_heldTable.calls kj139 t295 _ _ t318 1 t335 _ ?side1 ?side2 A169.out).mono ?_); (case side1 => repeat (first | exact (Kd.R_reads' HO_301001.out).2.2 | (with_reducible refine Kd.C_alloc ?_ _) | (with_reducible refine Kd.C_drewN ?_ _) | (with_reducible refine Kd.C_drew ?_))); (case side2 => exact (Kd.R_reads' HO_301001.out).2.1); rintro e w177 ⟨rfl, hb⟩; refine ⟨_, rfl, ?_⟩; have n_ := an (Kd.R_below (by exact Kd.R_nw HO_285001.out) hb) (an (Kd.R_below (by exact Kd.R_nw HO_290001.out) hb) (an (Kd.R_below (by exact Kd.R_nw HO_295001.out) hb) (an (Kd.R_below (by exact Kd.R_nw HO_301001.out) hb) (an (Kd.R_below (by exact Kd.R_nw HO_334001.out) hb) (an (blk_below (blk_nw BK267.out) hb) (an (blk_below (blk_nw BK268.out) hb) (an (blk_below (blk_nw BK284.out) hb) (an (blk_below (blk_nw BK289.out) hb) (an (blk_below (blk_nw BK294.out) hb) (an (blk_below (blk_nw BK300.out) hb) (an (blk_below (blk_nw BK333.out) hb) (an (below_step (by exact bel0) hb) (trivial))))))))))))); clear HO_285001 HO_290001 HO_295001 HO_301001 HO_334001 BK267 BK268 BK284 BK289 BK294 BK300 BK333 HB; obtain ⟨HO_285001, HO_290001, HO_295001, HO_301001, HO_334001, BK267, BK268, BK284, BK289, BK294, BK300, BK333, HB, -⟩ := n_; (try clear hb); (try clear hb2); (try clear hk); (try clear hi); refine Stop.out ?_))
                refine Stop.mk ?_
                replace H := H.out
                by_cases c178 : t335 < 0
                ·rw [if_pos c178] at H; have c178b0 : decide (t335 < 0) = true := decide_eq_true c178; clear c178; (try simp only [c178b0])
                 obtain rfl := Option.some.inj H
                 go_wp2
                 go_ret
                 exact ⟨by first | rfl | (simp [errW_none, errW_some] <;> rfl) | (simp [*, errW_none, errW_some] <;> rfl), by exact bel0⟩
                ·rw [if_neg c178] at H; have c178b0 : decide (t335 < 0) = false := decide_eq_false c178; clear c178; (try simp only [c178b0])
                 by_cases c179 : t335 = t317
                 ·rw [if_pos c179] at H; have c179b0 : (t335 == t317) = true := beq_iff_eq.mpr c179; have c179b1 : (t335 != t317) = false := bne_eq_false_iff_eq.mpr c179; clear c179
                  obtain rfl := Option.some.inj H
                  go_wp2
                  go_ret
                  exact ⟨by first | rfl | (simp [errW_none, errW_some] <;> rfl) | (simp [*, errW_none, errW_some] <;> rfl), by exact bel0⟩
                 ·rw [if_neg c179] at H; have c179b0 : (t335 == t317) = false := beq_eq_false_iff_ne.mpr c179; have c179b1 : (t335 != t317) = true := bne_iff_ne.mpr c179
                  obtain rfl := Option.some.inj H
                  go_wp2
                  go_ret
                  exact ⟨by first | rfl | (simp [errW_none, errW_some] <;> rfl) | (simp [*, errW_none, errW_some] <;> rfl), by exact bel0⟩
            ·rw [if_neg c136] at H; have c136b0 : (t319 == t317) = false := beq_eq_false_iff_ne.mpr c136; have c136b1 : (t319 != t317) = true := bne_iff_ne.mpr c136
             obtain rfl := Option.some.inj H
             go_wp2
             go_ret
             exact ⟨by first | rfl | (simp [errW_none, errW_some] <;> rfl) | (simp [*, errW_none, errW_some] <;> rfl), by exact bel0⟩
       ·replace c91 := Bool.eq_false_iff.mpr c91
        subst c91
        rw [if_neg (show ¬ (false = true) by decide)] at H
        obtain rfl := Option.some.inj H
        go_wp2
        go_ret
        exact ⟨by first | rfl | (simp [errW_none, errW_some] <;> rfl) | (simp [*, errW_none, errW_some] <;> rfl), by exact bel0⟩
      ·replace c84 := Bool.eq_false_iff.mpr c84
       subst c84
       rw [if_neg (show ¬ (false = true) by decide)] at H
       obtain rfl := Option.some.inj H
       go_wp2
       go_ret
       exact ⟨by first | rfl | (simp [errW_none, errW_some] <;> rfl) | (simp [*, errW_none, errW_some] <;> rfl), by exact bel0⟩

end Go.Proofs.Ytigoajblljolcaa.XFnExactMerge
