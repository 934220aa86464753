-- Written by this session's own program (xprint.py) over the kit's print.
import Derived.Test.YtigoajblljolcaaXFnExactHeardx0
import Derived.Test.YtigoajblljolcaaXFnExactHeardx1
import Derived.Test.YtigoajblljolcaaXFnExactHeardx2
import Derived.Test.YtigoajblljolcaaXFnExactHeardx6
import Derived.Test.YtigoajblljolcaaXFnExactHeardx8
namespace Go.Proofs.Ytigoajblljolcaa.XFnExactHeard
open Go.RowKit Go.Proofs.YtigoajblljolcaaW.PrintWords Go.Proofs.YtigoajblljolcaaW.PrintLast Go.Proofs.YtigoajblljolcaaW.PrintMore
attribute [local go_sem] max2_int min2_int max_two min_two max_three min_three max_four min_four   -- for this text's walks alone
set_option linter.unusedVariables false
set_option linter.unusedSimpArgs false


/-! ### laws_FnExactHeard: function 10 -/
mutual
def laws_FnExactHeard.j0 : Nat → Bool → Bool → Bool → Int → List (S80) → Int → Int → Int → Int → List (S82) → Int → List (S82) → Int → List (S82) → Option (Bool)
  | 0, _, _, _, _, _, _, _, _, _, _, _, _, _, _ => none
  | k + 1, x7, x10, x46, x259000, x259001, x260000, x260001, x260002, x274000, x274001, x279000, x279001, x288000, x288001 => if x46 = true then (some false) else ((laws_toTable.f k x259000 x259001).bind fun bt289 => ((laws_eqTable.f k x279000 x279001 bt289.1 bt289.2).bind fun t293 => (if t293 = true then ((laws_markTable.f k x279000 x279001 1).bind fun bt294 => (if bt294.1 < 0 then (laws_FnExactHeard.j1 k x7 true x259000 x259001 x260000 x260001 x260002 x274000 x274001 x288000 x288001) else ((laws_eqTable.f k x288000 x288001 x274000 x274001).bind fun t296 => (if t296 = true then (laws_FnExactHeard.j1 k x7 (x10 != x7) x259000 x259001 x260000 x260001 x260002 x274000 x274001 x288000 x288001) else (laws_FnExactHeard.j1 k x7 true x259000 x259001 x260000 x260001 x260002 x274000 x274001 x288000 x288001))))) else (some false))))
def laws_FnExactHeard.j1 : Nat → Bool → Bool → Int → List (S80) → Int → Int → Int → Int → List (S82) → Int → List (S82) → Option (Bool)
  | 0, _, _, _, _, _, _, _, _, _, _, _ => none
  | k + 1, x7, x67, x259000, x259001, x260000, x260001, x260002, x274000, x274001, x288000, x288001 => if x67 = true then (some false) else ((laws_markTable.f k x288000 x288001 1).bind fun bt297 => ((laws_heldTable.f k x288000 bt297.2 1).bind fun t299 => (if t299 < 0 then (some false) else (if t299 = bt297.1 then ((laws_toTable.f k x259000 x259001).bind fun bt300 => ((laws_toMember.f x260000 x260001 x260002).bind fun bt304 => ((impl_Heard.f k bt300.1 bt300.2 bt304.1 bt304.2.1 bt304.2.2).bind fun bt307 => ((laws_eqTable.f k bt307.1 bt307.2.1 x274000 x274001).bind fun t313 => (if t313 = true then (laws_FnExactHeard.j2 k bt297.1 (bt307.2.2 != x7) x288000 bt297.2) else (laws_FnExactHeard.j2 k bt297.1 true x288000 bt297.2)))))) else (some false)))))
def laws_FnExactHeard.j2 : Nat → Int → Bool → Int → List (S82) → Option (Bool)
  | 0, _, _, _, _ => none
  | k + 1, x12, x95, x288000, x288001 => if x95 = true then (some false) else ((laws_heldTable.f k x288000 x288001 1).bind fun t314 => (if t314 < 0 then (some false) else (if t314 = x12 then (some true) else (some false))))
end
def laws_FnExactHeard.f (k : Nat) (a0_0 : Int) (l0_1 : List (S80)) (a1_0 : Int) (a1_1 : Int) (a1_2 : Int) : Option (Bool) := (laws_szTable.f a0_0 l0_1 1048576).bind fun t260 => (if t260 < 0 then (some true) else ((laws_toTable.f k a0_0 l0_1).bind fun bt261 => ((laws_toMember.f a1_0 a1_1 a1_2).bind fun bt265 => ((spec_Heard.f k bt261.1 bt261.2 bt265.1 bt265.2.1 bt265.2.2).bind fun bt268 => ((laws_toTable.f k a0_0 l0_1).bind fun bt274 => ((laws_toMember.f a1_0 a1_1 a1_2).bind fun bt279 => ((impl_Heard.f k bt274.1 bt274.2 bt279.1 bt279.2.1 bt279.2.2).bind fun bt282 => ((laws_eqTable.f k bt282.1 bt282.2.1 bt268.1 bt268.2.1).bind fun t288 => (if t288 = true then (laws_FnExactHeard.j0 k bt268.2.2 bt282.2.2 (bt282.2.2 != bt268.2.2) a0_0 l0_1 a1_0 a1_1 a1_2 bt268.1 bt268.2.1 bt274.1 bt274.2 bt282.1 bt282.2.1) else (laws_FnExactHeard.j0 k bt268.2.2 bt282.2.2 true a0_0 l0_1 a1_0 a1_1 a1_2 bt268.1 bt268.2.1 bt274.1 bt274.2 bt282.1 bt282.2.1))))))))))
theorem laws_FnExactHeard.mono_l : ∀ k, (∀ y0 y1 y2 y3 y4 y5 y6 y7 y8 y9 y10 y11 y12 y13, LeO (laws_FnExactHeard.j0 k y0 y1 y2 y3 y4 y5 y6 y7 y8 y9 y10 y11 y12 y13) (laws_FnExactHeard.j0 (k + 1) y0 y1 y2 y3 y4 y5 y6 y7 y8 y9 y10 y11 y12 y13)) ∧ (∀ y0 y1 y2 y3 y4 y5 y6 y7 y8 y9 y10, LeO (laws_FnExactHeard.j1 k y0 y1 y2 y3 y4 y5 y6 y7 y8 y9 y10) (laws_FnExactHeard.j1 (k + 1) y0 y1 y2 y3 y4 y5 y6 y7 y8 y9 y10)) ∧ (∀ y0 y1 y2 y3, LeO (laws_FnExactHeard.j2 k y0 y1 y2 y3) (laws_FnExactHeard.j2 (k + 1) y0 y1 y2 y3))
 | 0 => ⟨fun _ _ _ _ _ _ _ _ _ _ _ _ _ _ r h => by simp [laws_FnExactHeard.j0] at h, fun _ _ _ _ _ _ _ _ _ _ _ r h => by simp [laws_FnExactHeard.j1] at h, fun _ _ _ _ r h => by simp [laws_FnExactHeard.j2] at h⟩
 | k + 1 => by
  obtain ⟨ih0, ih1, ih2⟩ := laws_FnExactHeard.mono_l k
  refine ⟨?_, ?_, ?_⟩
  ·intro y0 y1 y2 y3 y4 y5 y6 y7 y8 y9 y10 y11 y12 y13
   unfold laws_FnExactHeard.j0
   repeat' first
   | (with_reducible exact ih0 _ _ _ _ _ _ _ _ _ _ _ _ _ _)
   | (with_reducible exact ih1 _ _ _ _ _ _ _ _ _ _ _)
   | (with_reducible exact ih2 _ _ _ _)
   | (with_reducible exact impl_Heard.mono _ _ _ _ _ _)
   | (with_reducible exact laws_eqTable.mono _ _ _ _ _)
   | (with_reducible exact laws_heldTable.mono _ _ _ _)
   | (with_reducible exact laws_markTable.mono _ _ _ _)
   | (with_reducible exact laws_toTable.mono _ _ _)
   | (with_reducible exact spec_Heard.mono _ _ _ _ _ _)
   | (with_reducible exact LeO.refl _)
   | (with_reducible exact LeO.none _)
   | (with_reducible refine LeO.ite ?_ ?_)
   | (with_reducible refine LeO.bind ?_ (fun _ => ?_))
   | exact ih0 _ _ _ _ _ _ _ _ _ _ _ _ _ _
   | exact ih1 _ _ _ _ _ _ _ _ _ _ _
   | exact ih2 _ _ _ _
   | exact impl_Heard.mono _ _ _ _ _ _
   | exact laws_eqTable.mono _ _ _ _ _
   | exact laws_heldTable.mono _ _ _ _
   | exact laws_markTable.mono _ _ _ _
   | exact laws_toTable.mono _ _ _
   | exact spec_Heard.mono _ _ _ _ _ _
   | exact LeO.none _
   | refine LeO.ite ?_ ?_
   | refine LeO.bind ?_ (fun _ => ?_)
  ·intro y0 y1 y2 y3 y4 y5 y6 y7 y8 y9 y10
   unfold laws_FnExactHeard.j1
   repeat' first
   | (with_reducible exact ih0 _ _ _ _ _ _ _ _ _ _ _ _ _ _)
   | (with_reducible exact ih1 _ _ _ _ _ _ _ _ _ _ _)
   | (with_reducible exact ih2 _ _ _ _)
   | (with_reducible exact impl_Heard.mono _ _ _ _ _ _)
   | (with_reducible exact laws_eqTable.mono _ _ _ _ _)
   | (with_reducible exact laws_heldTable.mono _ _ _ _)
   | (with_reducible exact laws_markTable.mono _ _ _ _)
   | (with_reducible exact laws_toTable.mono _ _ _)
   | (with_reducible exact spec_Heard.mono _ _ _ _ _ _)
   | (with_reducible exact LeO.refl _)
   | (with_reducible exact LeO.none _)
   | (with_reducible refine LeO.ite ?_ ?_)
   | (with_reducible refine LeO.bind ?_ (fun _ => ?_))
   | exact ih0 _ _ _ _ _ _ _ _ _ _ _ _ _ _
   | exact ih1 _ _ _ _ _ _ _ _ _ _ _
   | exact ih2 _ _ _ _
   | exact impl_Heard.mono _ _ _ _ _ _
   | exact laws_eqTable.mono _ _ _ _ _
   | exact laws_heldTable.mono _ _ _ _
   | exact laws_markTable.mono _ _ _ _
   | exact laws_toTable.mono _ _ _
   | exact spec_Heard.mono _ _ _ _ _ _
   | exact LeO.none _
   | refine LeO.ite ?_ ?_
   | refine LeO.bind ?_ (fun _ => ?_)
  ·intro y0 y1 y2 y3
   unfold laws_FnExactHeard.j2
   repeat' first
   | (with_reducible exact ih0 _ _ _ _ _ _ _ _ _ _ _ _ _ _)
   | (with_reducible exact ih1 _ _ _ _ _ _ _ _ _ _ _)
   | (with_reducible exact ih2 _ _ _ _)
   | (with_reducible exact impl_Heard.mono _ _ _ _ _ _)
   | (with_reducible exact laws_eqTable.mono _ _ _ _ _)
   | (with_reducible exact laws_heldTable.mono _ _ _ _)
   | (with_reducible exact laws_markTable.mono _ _ _ _)
   | (with_reducible exact laws_toTable.mono _ _ _)
   | (with_reducible exact spec_Heard.mono _ _ _ _ _ _)
   | (with_reducible exact LeO.refl _)
   | (with_reducible exact LeO.none _)
   | (with_reducible refine LeO.ite ?_ ?_)
   | (with_reducible refine LeO.bind ?_ (fun _ => ?_))
   | exact ih0 _ _ _ _ _ _ _ _ _ _ _ _ _ _
   | exact ih1 _ _ _ _ _ _ _ _ _ _ _
   | exact ih2 _ _ _ _
   | exact impl_Heard.mono _ _ _ _ _ _
   | exact laws_eqTable.mono _ _ _ _ _
   | exact laws_heldTable.mono _ _ _ _
   | exact laws_markTable.mono _ _ _ _
   | exact laws_toTable.mono _ _ _
   | exact spec_Heard.mono _ _ _ _ _ _
   | exact LeO.none _
   | refine LeO.ite ?_ ?_
   | refine LeO.bind ?_ (fun _ => ?_)
theorem laws_FnExactHeard.mono : ∀ a0 a1 a2 a3 a4 k, LeO (laws_FnExactHeard.f k a0 a1 a2 a3 a4) (laws_FnExactHeard.f (k + 1) a0 a1 a2 a3 a4) := by
 intro a0 a1 a2 a3 a4 k
 obtain ⟨ih0, ih1, ih2⟩ := laws_FnExactHeard.mono_l k
 unfold laws_FnExactHeard.f
 repeat' first
   | (with_reducible exact ih0 _ _ _ _ _ _ _ _ _ _ _ _ _ _)
   | (with_reducible exact ih1 _ _ _ _ _ _ _ _ _ _ _)
   | (with_reducible exact ih2 _ _ _ _)
   | (with_reducible exact impl_Heard.mono _ _ _ _ _ _)
   | (with_reducible exact laws_eqTable.mono _ _ _ _ _)
   | (with_reducible exact laws_heldTable.mono _ _ _ _)
   | (with_reducible exact laws_markTable.mono _ _ _ _)
   | (with_reducible exact laws_toTable.mono _ _ _)
   | (with_reducible exact spec_Heard.mono _ _ _ _ _ _)
   | (with_reducible exact LeO.refl _)
   | (with_reducible exact LeO.none _)
   | (with_reducible refine LeO.ite ?_ ?_)
   | (with_reducible refine LeO.bind ?_ (fun _ => ?_))
   | exact ih0 _ _ _ _ _ _ _ _ _ _ _ _ _ _
   | exact ih1 _ _ _ _ _ _ _ _ _ _ _
   | exact ih2 _ _ _ _
   | exact impl_Heard.mono _ _ _ _ _ _
   | exact laws_eqTable.mono _ _ _ _ _
   | exact laws_heldTable.mono _ _ _ _
   | exact laws_markTable.mono _ _ _ _
   | exact laws_toTable.mono _ _ _
   | exact spec_Heard.mono _ _ _ _ _ _
   | exact LeO.none _
   | refine LeO.ite ?_ ?_
   | refine LeO.bind ?_ (fun _ => ?_)
def laws_FnExactHeard.T5 : Bool × List (List Nat × List Nat) := (true, [([], []), ([0], [0]), ([], []), ([2, 1], [2]), ([1, 3, 3], [1, 3]), ([4], [4]), ([5], [5]), ([5], [5]), ([], []), ([8, 6, 4, 0, 1, 2, 3, 4, 5, 6, 8], [6, 8]), ([7, 9, 0, 1, 2, 3, 4, 5, 6, 7, 8, 9], [7])])
def laws_FnExactHeard.B5 : List Nat := [0, 1, 0, 7, 15, 31, 63, 63, 0, 383, 1023]
theorem laws_FnExactHeard.tab5 : rtab .any (opsOf Try.f10 5) = laws_FnExactHeard.T5 := by kernel_rfl
theorem laws_FnExactHeard.bits5 : waitsOk laws_FnExactHeard.T5.2 laws_FnExactHeard.B5 = true := by kernel_rfl
def laws_FnExactHeard.T7 : Bool × List (List Nat × List Nat) := (true, [([], []), ([], []), ([1], [1]), ([0, 2, 2], [0, 2]), ([3], [3]), ([4], [4]), ([4], [4]), ([], []), ([7, 5, 3, 0, 1, 2, 3, 4, 5, 7], [5, 7]), ([6, 8, 0, 1, 2, 3, 4, 5, 6, 7, 8], [6])])
def laws_FnExactHeard.B7 : List Nat := [0, 0, 2, 7, 15, 31, 31, 0, 191, 511]
theorem laws_FnExactHeard.tab7 : rtab .any (opsOf Try.f10 7) = laws_FnExactHeard.T7 := by kernel_rfl
theorem laws_FnExactHeard.bits7 : waitsOk laws_FnExactHeard.T7.2 laws_FnExactHeard.B7 = true := by kernel_rfl
def laws_FnExactHeard.T24 : Bool × List (List Nat × List Nat) := (true, [([], []), ([0], [0]), ([], []), ([2, 1], [2]), ([1, 3, 3], [1, 3]), ([4], [4]), ([5], [5]), ([5], [5]), ([], []), ([8, 6, 4, 0, 1, 2, 3, 4, 5, 6, 8], [6, 8]), ([7, 9, 0, 1, 2, 3, 4, 5, 6, 7, 8, 9], [7])])
def laws_FnExactHeard.B24 : List Nat := [0, 1, 0, 7, 15, 31, 63, 63, 0, 383, 1023]
theorem laws_FnExactHeard.tab24 : rtab .any (opsOf Try.f10 24) = laws_FnExactHeard.T24 := by kernel_rfl
theorem laws_FnExactHeard.bits24 : waitsOk laws_FnExactHeard.T24.2 laws_FnExactHeard.B24 = true := by kernel_rfl
set_option maxHeartbeats 8000000 in
set_option maxRecDepth 100000 in
theorem laws_FnExactHeard.calls (k : Nat) (a0_0 : Int) (A0_1 : Option Addr) (c0_1 : Nat) (l0_1 : List (S80)) (a1_0 : Int) (a1_1 : Int) (a1_2 : Int) (r : Bool) (w : World) (hr0_1 : Kd.C k80 w A0_1 l0_1.length l0_1) (hc0_1 : l0_1.length ≤ c0_1) (h : laws_FnExactHeard.f k a0_0 l0_1 a1_0 a1_1 a1_2 = some r) :
  Calls Try.prog 10 #[.agg #[.int .i64 a0_0, .slice A0_1 l0_1.length c0_1], .agg #[.int .i64 a1_0, .int .i64 a1_1, .int .i64 a1_2]] w fun e w' => e = .returned (.bool r) ∧ Below w.heap.size w w' := by
 have hu37 := Try.underlying37
 have hu80 := Try.underlying80
 have hu41 := Try.underlying41
 have HR0_1 := Aside0.mk hr0_1; have HC0_1 := Aside0.mk hc0_1; clear hr0_1 hc0_1
 have HB := Aside0.mk (Below.refl w.heap.size w)
 have H : ((laws_szTable.f a0_0 l0_1 1048576).bind fun t260 => (if t260 < 0 then (some true) else ((laws_toTable.f k a0_0 l0_1).bind fun bt261 => ((laws_toMember.f a1_0 a1_1 a1_2).bind fun bt265 => ((spec_Heard.f k bt261.1 bt261.2 bt265.1 bt265.2.1 bt265.2.2).bind fun bt268 => ((laws_toTable.f k a0_0 l0_1).bind fun bt274 => ((laws_toMember.f a1_0 a1_1 a1_2).bind fun bt279 => ((impl_Heard.f k bt274.1 bt274.2 bt279.1 bt279.2.1 bt279.2.2).bind fun bt282 => ((laws_eqTable.f k bt282.1 bt282.2.1 bt268.1 bt268.2.1).bind fun t288 => (if t288 = true then (laws_FnExactHeard.j0 k bt268.2.2 bt282.2.2 (bt282.2.2 != bt268.2.2) a0_0 l0_1 a1_0 a1_1 a1_2 bt268.1 bt268.2.1 bt274.1 bt274.2 bt282.1 bt282.2.1) else (laws_FnExactHeard.j0 k bt268.2.2 bt282.2.2 true a0_0 l0_1 a1_0 a1_1 a1_2 bt268.1 bt268.2.1 bt274.1 bt274.2 bt282.1 bt282.2.1))))))))))) = some r := h
 clear h; replace H := Option.bind_eq_some_iff.mp H; obtain ⟨t260, A30, H⟩ := H; have A3 := Aside0.mk A30; clear A30; go_enter Try.func10, Try.ntmps10
 replace H := Aside0.mk H
 go_wp2_with (first | ((with_reducible refine gate_dst (N := 2) rfl ?_); refine box_event ?hg (N := 2) ?hd (cs := #[.int .i64 a0_0, .slice A0_1 l0_1.length c0_1]) (t := 37) ?hr ?_; (case hd => rfl); (case hg => rfl); (case hr => first | (go_simp; done) | (go_simp; rfl)); intro gb258 hg w4 hbox hb; have n_ := an (below_step (by exact bel0) hb) (an (hbox) (an ((by rw [hg]; exact (below_size (by exact bel0)) : w.heap.size ≤ gb258)) (an ((by rw [hg]; exact (below_size (by exact bel0)) : w.heap.size ≤ gb258)) (trivial)))); clear HB; obtain ⟨HB, BK258, GW258, GE258, -⟩ := n_; clear hb hbox hg) | ((with_reducible refine gate_dst (N := 3) rfl ?_); refine box_event ?hg (N := 3) ?hd (cs := #[.int .i64 a1_0, .int .i64 a1_1, .int .i64 a1_2]) (t := 80) ?hr ?_; (case hd => rfl); (case hg => rfl); (case hr => first | (go_simp; done) | (go_simp; rfl)); intro gb259 hg w5 hbox hb; have n_ := an (blk_below (blk_nw BK258.out) hb) (an (below_step (by exact bel0) hb) (an (hbox) (an ((by rw [hg]; exact (below_size (by exact bel0)) : w.heap.size ≤ gb259)) (an ((by rw [hg]; exact (below_size (by exact bel0)) : w.heap.size ≤ gb259)) (an ((by rw [hg]; exact Nat.ne_of_lt (blk_lt (blk_nw BK258.out)) : gb258 ≠ gb259)) (an ((by rw [hg]; exact Nat.ne_of_gt (blk_lt (blk_nw BK258.out)) : gb259 ≠ gb258)) (trivial))))))); clear BK258 HB; obtain ⟨BK258, HB, BK259, GW259, GE259, NB258_259, NB259_258, -⟩ := n_; clear hb hbox hg; have hnb6 := NB258_259.out; have hnc6 := NB259_258.out; obtain ⟨hcz7_0, hcz7_1⟩ := blkz2 BK258.out; have hfz7_0 := blkf BK258.out) | ((with_reducible refine gate_callee (f := 23) rfl ?_); refine goesL_ (some 18) rfl rfl Try.func23 (by kernel_rfl) rfl #[.agg #[.int .i64 a0_0, .slice A0_1 l0_1.length c0_1], .int .i64 1048576] rfl (by (try simp only [List.map_toArray, List.map_cons, List.map_nil]); first | done | rfl | (simp only [List.length_drop, List.length_take]; rfl)) ?_; (with_reducible refine (laws_szTable.calls a0_0 _ _ l0_1 1048576 t260 _ ?side1 ?side2 A3.out).mono ?_); (case side1 => repeat (first | exact (Kd.C_below HR0_1.out HB.out) | (with_reducible refine Kd.C_alloc ?_ _) | (with_reducible refine Kd.C_drewN ?_ _) | (with_reducible refine Kd.C_drew ?_))); (case side2 => exact HC0_1.out); rintro e w8 ⟨rfl, hb⟩; refine ⟨_, rfl, ?_⟩; have n_ := an (blk_below (blk_nw BK258.out) hb) (an (blk_below (blk_nw BK259.out) hb) (an (below_step (by exact bel0) hb) (trivial))); clear BK258 BK259 HB; obtain ⟨BK258, BK259, HB, -⟩ := n_; (try clear hb); (try clear hb2); (try clear hk); (try clear hi); refine Stop.out ?_))
 refine Stop.mk ?_
 replace H := H.out
 by_cases c9 : t260 < 0
 ·rw [if_pos c9] at H; have c9b0 : decide (t260 < 0) = true := decide_eq_true c9; clear c9; (try simp only [c9b0])
  obtain rfl := Option.some.inj H
  go_wp2
  go_ret
  exact ⟨by first | rfl | (simp [errW_none, errW_some] <;> rfl) | (simp [*, errW_none, errW_some] <;> rfl), by exact bel0⟩
 ·rw [if_neg c9] at H; have c9b0 : decide (t260 < 0) = false := decide_eq_false c9; clear c9; (try simp only [c9b0]); replace H := Option.bind_eq_some_iff.mp H
  obtain ⟨⟨t261, t262⟩, A100, H⟩ := H
  replace H : ((laws_toMember.f a1_0 a1_1 a1_2).bind fun bt265 => ((spec_Heard.f k t261 t262 bt265.1 bt265.2.1 bt265.2.2).bind fun bt268 => ((laws_toTable.f k a0_0 l0_1).bind fun bt274 => ((laws_toMember.f a1_0 a1_1 a1_2).bind fun bt279 => ((impl_Heard.f k bt274.1 bt274.2 bt279.1 bt279.2.1 bt279.2.2).bind fun bt282 => ((laws_eqTable.f k bt282.1 bt282.2.1 bt268.1 bt268.2.1).bind fun t288 => (if t288 = true then (laws_FnExactHeard.j0 k bt268.2.2 bt282.2.2 (bt282.2.2 != bt268.2.2) a0_0 l0_1 a1_0 a1_1 a1_2 bt268.1 bt268.2.1 bt274.1 bt274.2 bt282.1 bt282.2.1) else (laws_FnExactHeard.j0 k bt268.2.2 bt282.2.2 true a0_0 l0_1 a1_0 a1_1 a1_2 bt268.1 bt268.2.1 bt274.1 bt274.2 bt282.1 bt282.2.1)))))))) = some r := H
  have A10 := Aside0.mk A100; clear A100; replace H := Option.bind_eq_some_iff.mp H
  obtain ⟨⟨t265, t266, t267⟩, A110, H⟩ := H
  replace H : ((spec_Heard.f k t261 t262 t265 t266 t267).bind fun bt268 => ((laws_toTable.f k a0_0 l0_1).bind fun bt274 => ((laws_toMember.f a1_0 a1_1 a1_2).bind fun bt279 => ((impl_Heard.f k bt274.1 bt274.2 bt279.1 bt279.2.1 bt279.2.2).bind fun bt282 => ((laws_eqTable.f k bt282.1 bt282.2.1 bt268.1 bt268.2.1).bind fun t288 => (if t288 = true then (laws_FnExactHeard.j0 k bt268.2.2 bt282.2.2 (bt282.2.2 != bt268.2.2) a0_0 l0_1 a1_0 a1_1 a1_2 bt268.1 bt268.2.1 bt274.1 bt274.2 bt282.1 bt282.2.1) else (laws_FnExactHeard.j0 k bt268.2.2 bt282.2.2 true a0_0 l0_1 a1_0 a1_1 a1_2 bt268.1 bt268.2.1 bt274.1 bt274.2 bt282.1 bt282.2.1))))))) = some r := H
  have A11 := Aside0.mk A110; clear A110; replace H := Option.bind_eq_some_iff.mp H
  obtain ⟨⟨t268, t269, t272⟩, A120, H⟩ := H
  replace H : ((laws_toTable.f k a0_0 l0_1).bind fun bt274 => ((laws_toMember.f a1_0 a1_1 a1_2).bind fun bt279 => ((impl_Heard.f k bt274.1 bt274.2 bt279.1 bt279.2.1 bt279.2.2).bind fun bt282 => ((laws_eqTable.f k bt282.1 bt282.2.1 t268 t269).bind fun t288 => (if t288 = true then (laws_FnExactHeard.j0 k t272 bt282.2.2 (bt282.2.2 != t272) a0_0 l0_1 a1_0 a1_1 a1_2 t268 t269 bt274.1 bt274.2 bt282.1 bt282.2.1) else (laws_FnExactHeard.j0 k t272 bt282.2.2 true a0_0 l0_1 a1_0 a1_1 a1_2 t268 t269 bt274.1 bt274.2 bt282.1 bt282.2.1)))))) = some r := H
  have A12 := Aside0.mk A120; clear A120; replace H := Option.bind_eq_some_iff.mp H
  obtain ⟨⟨t274, t275⟩, A130, H⟩ := H
  replace H : ((laws_toMember.f a1_0 a1_1 a1_2).bind fun bt279 => ((impl_Heard.f k t274 t275 bt279.1 bt279.2.1 bt279.2.2).bind fun bt282 => ((laws_eqTable.f k bt282.1 bt282.2.1 t268 t269).bind fun t288 => (if t288 = true then (laws_FnExactHeard.j0 k t272 bt282.2.2 (bt282.2.2 != t272) a0_0 l0_1 a1_0 a1_1 a1_2 t268 t269 t274 t275 bt282.1 bt282.2.1) else (laws_FnExactHeard.j0 k t272 bt282.2.2 true a0_0 l0_1 a1_0 a1_1 a1_2 t268 t269 t274 t275 bt282.1 bt282.2.1))))) = some r := H
  have A13 := Aside0.mk A130; clear A130; replace H := Option.bind_eq_some_iff.mp H
  obtain ⟨⟨t279, t280, t281⟩, A140, H⟩ := H
  replace H : ((impl_Heard.f k t274 t275 t279 t280 t281).bind fun bt282 => ((laws_eqTable.f k bt282.1 bt282.2.1 t268 t269).bind fun t288 => (if t288 = true then (laws_FnExactHeard.j0 k t272 bt282.2.2 (bt282.2.2 != t272) a0_0 l0_1 a1_0 a1_1 a1_2 t268 t269 t274 t275 bt282.1 bt282.2.1) else (laws_FnExactHeard.j0 k t272 bt282.2.2 true a0_0 l0_1 a1_0 a1_1 a1_2 t268 t269 t274 t275 bt282.1 bt282.2.1)))) = some r := H
  have A14 := Aside0.mk A140; clear A140; replace H := Option.bind_eq_some_iff.mp H
  obtain ⟨⟨t282, t283, t286⟩, A150, H⟩ := H
  replace H : ((laws_eqTable.f k t282 t283 t268 t269).bind fun t288 => (if t288 = true then (laws_FnExactHeard.j0 k t272 t286 (t286 != t272) a0_0 l0_1 a1_0 a1_1 a1_2 t268 t269 t274 t275 t282 t283) else (laws_FnExactHeard.j0 k t272 t286 true a0_0 l0_1 a1_0 a1_1 a1_2 t268 t269 t274 t275 t282 t283))) = some r := H
  have A15 := Aside0.mk A150; clear A150; have HC16 := Aside0.mk H; clear H
  try go_wp2
  have n_ := an (blk_drew BK258.out) (an (blk_drew BK259.out) (an (below_drew1 HB.out) (trivial)))
  clear BK258 BK259 HB
  obtain ⟨BK258, BK259, HB, -⟩ := n_
  refine start_ (n := 11) (S := fun w' => w'.cell? ⟨gb258, 0, none⟩ = some (.int .i64 a0_0) ∧ w'.cell? ⟨gb258, 1, none⟩ = some (.slice A0_1 l0_1.length c0_1) ∧ w'.cell? ⟨gb259, 0, none⟩ = some (.int .i64 a1_0) ∧ w'.cell? ⟨gb259, 1, none⟩ = some (.int .i64 a1_1) ∧ w'.cell? ⟨gb259, 2, none⟩ = some (.int .i64 a1_2)) (ds := []) #[false, false, false, false, false, false, false, false, false, false, false] (by kernel_rfl) rfl rfl ⟨(blk_cell BK258.out 0).trans rfl, (blk_cell BK258.out 1).trans rfl, (blk_cell BK259.out 0).trans rfl, (blk_cell BK259.out 1).trans rfl, (blk_cell BK259.out 2).trans rfl⟩ (fun hHeld => ?_); refine with_tabW laws_FnExactHeard.tab5 laws_FnExactHeard.bits5 (fun HT_ HW_ => ?_)
  generalize w8.drew = w17 at BK258 BK259 HB hHeld ⊢
  refine take_ (i := 0) (N := some 22) (v := ?_) (a' := ?_) #[true, false, false, false, false, false, false, false, false, false, false] rfl rfl (take_ofW HT_.out HW_.out (by kernel_rfl)) (fun _ _ _ h => h) (Or.inl ⟨by rfl, ?_⟩) hHeld ?_ ?_
  rotate_left
  ·rintro w' ⟨s0, s1, s2, s3, s4⟩
   go_simp
   with_reducible rfl
  rotate_left; · simp only [Act.put, List.setIfInBounds_toArray, List.set_cons_zero, List.set_cons_succ, i64_w, i32_w]; rfl
  refine take_ (i := 2) (N := some 24) (v := ?_) (a' := ?_) #[true, false, true, false, false, false, false, false, false, false, false] rfl rfl (take_ofW HT_.out HW_.out (by kernel_rfl)) (fun _ _ _ h => h) (Or.inl ⟨by rfl, ?_⟩) hHeld ?_ ?_
  rotate_left
  ·rintro w' ⟨s0, s1, s2, s3, s4⟩
   go_simp
   with_reducible rfl
  rotate_left; · simp only [Act.put, List.setIfInBounds_toArray, List.set_cons_zero, List.set_cons_succ, i64_w, i32_w]; rfl
  refine join_ (σ := Value × Value × Nat) 2 #[true, true, true, true, true, true, true, true, true, false, false] (fun s_ => [(23, .agg #[.int .i64 t261, s_.1]), (25, .agg #[.int .i64 t265, .int .i64 t266, .int .i64 t267]), (26, .tuple #[.agg #[.int .i64 t268, s_.2.1], .bool t272]), (6, .pointer (some ⟨s_.2.2, 0, none⟩)), (21, .tuple #[.agg #[.int .i64 t268, s_.2.1], .bool t272]), (27, .agg #[.int .i64 t268, s_.2.1]), (28, .bool t272)]) (fun s_ w' => (w'.cell? ⟨gb258, 0, none⟩ = some (.int .i64 a0_0) ∧ w'.cell? ⟨gb258, 1, none⟩ = some (.slice A0_1 l0_1.length c0_1) ∧ w'.cell? ⟨gb259, 0, none⟩ = some (.int .i64 a1_0) ∧ w'.cell? ⟨gb259, 1, none⟩ = some (.int .i64 a1_1) ∧ w'.cell? ⟨gb259, 2, none⟩ = some (.int .i64 a1_2)) ∧ (Kd.R k82 82 w' w.heap.size (fun k_ => some k_ ≠ (s_.2.1 : Value).ownBlock) s_.1 t262) ∧ (Kd.R k82 82 w' w.heap.size (fun k_ => some k_ ≠ (s_.1 : Value).ownBlock) s_.2.1 t269) ∧ (w'.heap[gb258]? = some (.cells #[.int .i64 a0_0, .slice A0_1 l0_1.length c0_1] 37 (0, 0))) ∧ (w'.heap[gb259]? = some (.cells #[.int .i64 a1_0, .int .i64 a1_1, .int .i64 a1_2] 80 (0, 0))) ∧ (w'.heap[s_.2.2]? = some (.cells #[.int .i64 0, .slice none 0 0] 41 (0, 0))) ∧ (w.heap.size ≤ s_.2.2) ∧ (w.heap.size ≤ s_.2.2) ∧ (gb258 ≠ s_.2.2) ∧ (s_.2.2 ≠ gb258) ∧ (gb259 ≠ s_.2.2) ∧ (s_.2.2 ≠ gb259) ∧ (Below w.heap.size w w')) ?_ ?_
  rotate_left
  ·intro hCont
   refine two_ (i := 1) (j := 8) (Ni := some 23) (Nj := some 6) #[true, true, true, false, false, false, false, false, false, false, false] #[true, false, true, false, false, false, false, false, true, false, false] rfl rfl rfl rfl (two_of HT_.out (by kernel_rfl)) (by decide) (by decide) (fun K hK => ?_) (fun K hK => ?_)
   ·skip
    refine goes_ Try.func25 (by kernel_rfl) rfl #[.agg #[.int .i64 a0_0, .slice A0_1 l0_1.length c0_1]] (by rfl) rfl rfl (by (try simp only [List.map_toArray, List.map_cons, List.map_nil]); first | done | rfl | (simp only [List.length_drop, List.length_take]; rfl)) ?_
    with_reducible refine (laws_toTable.calls k a0_0 _ _ l0_1 t261 t262 _ ?side1 ?side2 A10.out).mono ?_
    (case side1 => repeat (first | exact (Kd.C_below HR0_1.out HB.out) | (with_reducible refine Kd.C_alloc ?_ _) | (with_reducible refine Kd.C_drewN ?_ _) | (with_reducible refine Kd.C_drew ?_)))
    (case side2 => exact HC0_1.out)
    rintro e w18 ⟨v263, rfl, ho0, hb⟩
    refine ⟨_, rfl, ?_⟩
    have n_ := an (Kd.R_lower ho0 (below_size (by exact bel0))) (an (blk_below (blk_nw BK258.out) hb) (an (blk_below (blk_nw BK259.out) hb) (an (below_step (by exact bel0) hb) (trivial))))
    clear BK258 BK259 HB
    obtain ⟨HO264, BK258, BK259, HB, -⟩ := n_
    (try clear hb); (try clear hb2); (try clear hk); (try clear hi); (try clear ho0)
    refine hK.out _ _ ⟨(blk_cell BK258.out 0).trans rfl, (blk_cell BK258.out 1).trans rfl, (blk_cell BK259.out 0).trans rfl, (blk_cell BK259.out 1).trans rfl, (blk_cell BK259.out 2).trans rfl⟩ (fun hHeld => ?_)
    clear hK K
    refine norm_ (a' := ?_) ?_ ?_
    rotate_left
    ·show Act.put _ (some 23) _ = _
     simp only [Act.put, List.setIfInBounds_toArray, List.set_cons_zero, List.set_cons_succ, i64_w, i32_w]
     rfl
    refine two_ (i := 3) (j := 8) (Ni := some 25) (Nj := some 6) #[true, true, true, true, false, false, false, false, false, false, false] #[true, true, true, false, false, false, false, false, true, false, false] rfl rfl rfl rfl (two_of HT_.out (by kernel_rfl)) (by decide) (by decide) (fun K hK => ?_) (fun K hK => ?_)
    ·skip
     refine goes_ Try.func52 (by kernel_rfl) rfl #[.agg #[.int .i64 a1_0, .int .i64 a1_1, .int .i64 a1_2]] (by rfl) rfl rfl (by (try simp only [List.map_toArray, List.map_cons, List.map_nil]); first | done | rfl | (simp only [List.length_drop, List.length_take]; rfl)) ?_
     with_reducible refine (laws_toMember.calls a1_0 a1_1 a1_2 t265 t266 t267 _ A11.out).mono ?_
     rintro e w19 ⟨rfl, hb⟩
     refine ⟨_, rfl, ?_⟩
     have n_ := an (Kd.R_below (by exact Kd.R_nw HO264.out) hb) (an (blk_below (blk_nw BK258.out) hb) (an (blk_below (blk_nw BK259.out) hb) (an (below_step (by exact bel0) hb) (trivial))))
     clear HO264 BK258 BK259 HB
     obtain ⟨HO264, BK258, BK259, HB, -⟩ := n_
     (try clear hb); (try clear hb2); (try clear hk); (try clear hi)
     obtain ⟨Ao20, co20, eo20⟩ := Kd.R_slice HO264.out
     (first | subst eo20 | (injection eo20 with f1_ f2_ f3_; have f4_ := f1_.symm; have f5_ := f3_.symm; clear f1_ f2_ f3_; subst f4_; subst f5_))
     refine hK.out _ _ ⟨(blk_cell BK258.out 0).trans rfl, (blk_cell BK258.out 1).trans rfl, (blk_cell BK259.out 0).trans rfl, (blk_cell BK259.out 1).trans rfl, (blk_cell BK259.out 2).trans rfl⟩ (fun hHeld => ?_)
     clear hK K
     refine norm_ (a' := ?_) ?_ ?_
     rotate_left
     ·show Act.put _ (some 25) _ = _
      simp only [Act.put, List.setIfInBounds_toArray, List.set_cons_zero, List.set_cons_succ, i64_w, i32_w]
      rfl
     refine two_ (i := 4) (j := 8) (Ni := some 26) (Nj := some 6) #[true, true, true, true, true, false, false, false, false, false, false] #[true, true, true, true, false, false, false, false, true, false, false] rfl rfl rfl rfl (two_of HT_.out (by kernel_rfl)) (by decide) (by decide) (fun K hK => ?_) (fun K hK => ?_)
     ·skip
      refine goes_ Try.func51 (by kernel_rfl) rfl #[.agg #[.int .i64 t261, .slice Ao20 t262.length co20], .agg #[.int .i64 t265, .int .i64 t266, .int .i64 t267]] (by rfl) rfl rfl (by (try simp only [List.map_toArray, List.map_cons, List.map_nil]); first | done | rfl | (simp only [List.length_drop, List.length_take]; rfl)) ?_
      with_reducible refine (spec_Heard.calls k t261 _ _ t262 t265 t266 t267 t268 t269 t272 _ ?side1 ?side2 A12.out).mono ?_
      (case side1 => repeat (first | exact (Kd.R_reads' HO264.out).2.2 | (with_reducible refine Kd.C_alloc ?_ _) | (with_reducible refine Kd.C_drewN ?_ _) | (with_reducible refine Kd.C_drew ?_)))
      (case side2 => exact (Kd.R_reads' HO264.out).2.1)
      rintro e w21 ⟨v270, rfl, ho0, hb⟩
      refine ⟨_, rfl, ?_⟩
      have n_ := an (Kd.R_elder' (by exact Kd.R_nw HO264.out) (Kd.R_base ho0) hb) (an (Kd.R_lower (Kd.R_new' ho0 (Kd.R_lt (by exact Kd.R_nw HO264.out))) (below_size (by exact bel0))) (an (blk_below (blk_nw BK258.out) hb) (an (blk_below (blk_nw BK259.out) hb) (an (below_step (by exact bel0) hb) (trivial)))))
      clear HO264 BK258 BK259 HB
      obtain ⟨HO264, HO271, BK258, BK259, HB, -⟩ := n_
      (try clear hb); (try clear hb2); (try clear hk); (try clear hi); (try clear ho0)
      refine hK.out _ _ ⟨(blk_cell BK258.out 0).trans rfl, (blk_cell BK258.out 1).trans rfl, (blk_cell BK259.out 0).trans rfl, (blk_cell BK259.out 1).trans rfl, (blk_cell BK259.out 2).trans rfl⟩ (fun hHeld => ?_)
      clear hK K
      refine norm_ (a' := ?_) ?_ ?_
      rotate_left
      ·show Act.put _ (some 26) _ = _
       simp only [Act.put, List.setIfInBounds_toArray, List.set_cons_zero, List.set_cons_succ, i64_w, i32_w]
       rfl
      refine pure_ (i := 5) (N := some 21) (v := ?_) (a' := ?_) #[true, true, true, true, true, true, false, false, false, false, false] rfl rfl (any_of HT_.out (by kernel_rfl)) (fun _ _ _ h => h) (Or.inl ⟨by rfl, ?_⟩) ?_ ?_
      rotate_left; · intro w'; go_simp; with_reducible rfl
      rotate_left; · simp only [Act.put, List.setIfInBounds_toArray, List.set_cons_zero, List.set_cons_succ, i64_w, i32_w]; rfl
      refine pure_ (i := 6) (N := some 27) (v := ?_) (a' := ?_) #[true, true, true, true, true, true, true, false, false, false, false] rfl rfl (any_of HT_.out (by kernel_rfl)) (fun _ _ _ h => h) (Or.inl ⟨by rfl, ?_⟩) ?_ ?_
      rotate_left; · intro w'; go_simp; with_reducible rfl
      rotate_left; · simp only [Act.put, List.setIfInBounds_toArray, List.set_cons_zero, List.set_cons_succ, i64_w, i32_w]; rfl
      refine pure_ (i := 7) (N := some 28) (v := ?_) (a' := ?_) #[true, true, true, true, true, true, true, true, false, false, false] rfl rfl (any_of HT_.out (by kernel_rfl)) (fun _ _ _ h => h) (Or.inl ⟨by rfl, ?_⟩) ?_ ?_
      rotate_left; · intro w'; go_simp; with_reducible rfl
      rotate_left; · simp only [Act.put, List.setIfInBounds_toArray, List.set_cons_zero, List.set_cons_succ, i64_w, i32_w]; rfl
      refine one_ (i := 8) (N := some 6) #[true, true, true, true, true, true, true, true, true, false, false] rfl rfl (one_of HT_.out (by kernel_rfl)) (by decide) (fun K hK => ?_)
      refine box_step ?hg (N := 6) ?hd (cs := #[.int .i64 0, .slice none 0 0]) (t := 41) ?hr ?_; (case hd => rfl); (case hg => rfl); (case hr => first | (go_simp; done) | (go_simp; rfl))
      intro gb273 hg w22 hbox hb
      have n_ := an (Kd.R_below (by exact Kd.R_nw HO264.out) hb) (an (Kd.R_below (by exact Kd.R_nw HO271.out) hb) (an (blk_below (blk_nw BK258.out) hb) (an (blk_below (blk_nw BK259.out) hb) (an (below_step (by exact bel0) hb) (an (hbox) (an ((by rw [hg]; exact (below_size (by exact bel0)) : w.heap.size ≤ gb273)) (an ((by rw [hg]; exact (below_size (by exact bel0)) : w.heap.size ≤ gb273)) (an ((by rw [hg]; exact Nat.ne_of_lt (blk_lt (blk_nw BK258.out)) : gb258 ≠ gb273)) (an ((by rw [hg]; exact Nat.ne_of_gt (blk_lt (blk_nw BK258.out)) : gb273 ≠ gb258)) (an ((by rw [hg]; exact Nat.ne_of_lt (blk_lt (blk_nw BK259.out)) : gb259 ≠ gb273)) (an ((by rw [hg]; exact Nat.ne_of_gt (blk_lt (blk_nw BK259.out)) : gb273 ≠ gb259)) (trivial))))))))))))
      clear HO264 HO271 BK258 BK259 HB
      obtain ⟨HO264, HO271, BK258, BK259, HB, BK273, GW273, GE273, NB258_273, NB273_258, NB259_273, NB273_259, -⟩ := n_
      clear hb hbox hg
      refine hK.out _ _ ⟨(blk_cell BK258.out 0).trans rfl, (blk_cell BK258.out 1).trans rfl, (blk_cell BK259.out 0).trans rfl, (blk_cell BK259.out 1).trans rfl, (blk_cell BK259.out 2).trans rfl⟩ (fun hHeld => ?_)
      clear hK K
      refine norm_ (a' := ?_) ?_ ?_
      rotate_left
      ·show Act.put _ (some 6) _ = _
       simp only [Act.put, List.setIfInBounds_toArray, List.set_cons_zero, List.set_cons_succ, i64_w, i32_w]
       rfl
      exact norm_ (by simp only [putAll, Act.put, List.setIfInBounds_toArray, List.set_cons_zero, List.set_cons_succ]) (hCont (.slice Ao20 t262.length co20, v270, gb273) _ ⟨hHeld, (by exact Kd.R_nw (Kd.R_mono HO264.out (fun _ hk => hk.2))), (by exact Kd.R_nw (Kd.R_mono HO271.out (fun _ hk => hk.2))), (by exact blk_nw BK258.out), (by exact blk_nw BK259.out), (by exact blk_nw BK273.out), GW273.out, GE273.out, NB258_273.out, NB273_258.out, NB259_273.out, NB273_259.out, (by exact bel0)⟩)
     ·skip
      refine box_step ?hg (N := 6) ?hd (cs := #[.int .i64 0, .slice none 0 0]) (t := 41) ?hr ?_; (case hd => rfl); (case hg => rfl); (case hr => first | (go_simp; done) | (go_simp; rfl))
      intro gb273 hg w20 hbox hb
      have n_ := an (Kd.R_below (by exact Kd.R_nw HO264.out) hb) (an (blk_below (blk_nw BK258.out) hb) (an (blk_below (blk_nw BK259.out) hb) (an (below_step (by exact bel0) hb) (an (hbox) (an ((by rw [hg]; exact (below_size (by exact bel0)) : w.heap.size ≤ gb273)) (an ((by rw [hg]; exact (below_size (by exact bel0)) : w.heap.size ≤ gb273)) (an ((by rw [hg]; exact Nat.ne_of_lt (blk_lt (blk_nw BK258.out)) : gb258 ≠ gb273)) (an ((by rw [hg]; exact Nat.ne_of_gt (blk_lt (blk_nw BK258.out)) : gb273 ≠ gb258)) (an ((by rw [hg]; exact Nat.ne_of_lt (blk_lt (blk_nw BK259.out)) : gb259 ≠ gb273)) (an ((by rw [hg]; exact Nat.ne_of_gt (blk_lt (blk_nw BK259.out)) : gb273 ≠ gb259)) (trivial)))))))))))
      clear HO264 BK258 BK259 HB
      obtain ⟨HO264, BK258, BK259, HB, BK273, GW273, GE273, NB258_273, NB273_258, NB259_273, NB273_259, -⟩ := n_
      clear hb hbox hg
      obtain ⟨Ao21, co21, eo21⟩ := Kd.R_slice HO264.out
      (first | subst eo21 | (injection eo21 with f1_ f2_ f3_; have f4_ := f1_.symm; have f5_ := f3_.symm; clear f1_ f2_ f3_; subst f4_; subst f5_))
      refine hK.out _ _ ⟨(blk_cell BK258.out 0).trans rfl, (blk_cell BK258.out 1).trans rfl, (blk_cell BK259.out 0).trans rfl, (blk_cell BK259.out 1).trans rfl, (blk_cell BK259.out 2).trans rfl⟩ (fun hHeld => ?_)
      clear hK K
      refine norm_ (a' := ?_) ?_ ?_
      rotate_left
      ·show Act.put _ (some 6) _ = _
       simp only [Act.put, List.setIfInBounds_toArray, List.set_cons_zero, List.set_cons_succ, i64_w, i32_w]
       rfl
      refine one_ (i := 4) (N := some 26) #[true, true, true, true, true, false, false, false, true, false, false] rfl rfl (one_of HT_.out (by kernel_rfl)) (by decide) (fun K hK => ?_)
      refine goes_ Try.func51 (by kernel_rfl) rfl #[.agg #[.int .i64 t261, .slice Ao21 t262.length co21], .agg #[.int .i64 t265, .int .i64 t266, .int .i64 t267]] (by rfl) rfl rfl (by (try simp only [List.map_toArray, List.map_cons, List.map_nil]); first | done | rfl | (simp only [List.length_drop, List.length_take]; rfl)) ?_
      with_reducible refine (spec_Heard.calls k t261 _ _ t262 t265 t266 t267 t268 t269 t272 _ ?side1 ?side2 A12.out).mono ?_
      (case side1 => repeat (first | exact (Kd.R_reads' HO264.out).2.2 | (with_reducible refine Kd.C_alloc ?_ _) | (with_reducible refine Kd.C_drewN ?_ _) | (with_reducible refine Kd.C_drew ?_)))
      (case side2 => exact (Kd.R_reads' HO264.out).2.1)
      rintro e w22 ⟨v270, rfl, ho0, hb⟩
      refine ⟨_, rfl, ?_⟩
      have n_ := an (Kd.R_elder' (by exact Kd.R_nw HO264.out) (Kd.R_base ho0) hb) (an (Kd.R_lower (Kd.R_new' ho0 (Kd.R_lt (by exact Kd.R_nw HO264.out))) (below_size (by exact bel0))) (an (blk_below (blk_nw BK258.out) hb) (an (blk_below (blk_nw BK259.out) hb) (an (blk_below (blk_nw BK273.out) hb) (an (below_step (by exact bel0) hb) (trivial))))))
      clear HO264 BK258 BK259 BK273 HB
      obtain ⟨HO264, HO271, BK258, BK259, BK273, HB, -⟩ := n_
      (try clear hb); (try clear hb2); (try clear hk); (try clear hi); (try clear ho0)
      refine hK.out _ _ ⟨(blk_cell BK258.out 0).trans rfl, (blk_cell BK258.out 1).trans rfl, (blk_cell BK259.out 0).trans rfl, (blk_cell BK259.out 1).trans rfl, (blk_cell BK259.out 2).trans rfl⟩ (fun hHeld => ?_)
      clear hK K
      refine norm_ (a' := ?_) ?_ ?_
      rotate_left
      ·show Act.put _ (some 26) _ = _
       simp only [Act.put, List.setIfInBounds_toArray, List.set_cons_zero, List.set_cons_succ, i64_w, i32_w]
       rfl
      refine pure_ (i := 5) (N := some 21) (v := ?_) (a' := ?_) #[true, true, true, true, true, true, false, false, true, false, false] rfl rfl (any_of HT_.out (by kernel_rfl)) (fun _ _ _ h => h) (Or.inl ⟨by rfl, ?_⟩) ?_ ?_
      rotate_left; · intro w'; go_simp; with_reducible rfl
      rotate_left; · simp only [Act.put, List.setIfInBounds_toArray, List.set_cons_zero, List.set_cons_succ, i64_w, i32_w]; rfl
      refine pure_ (i := 6) (N := some 27) (v := ?_) (a' := ?_) #[true, true, true, true, true, true, true, false, true, false, false] rfl rfl (any_of HT_.out (by kernel_rfl)) (fun _ _ _ h => h) (Or.inl ⟨by rfl, ?_⟩) ?_ ?_
      rotate_left; · intro w'; go_simp; with_reducible rfl
      rotate_left; · simp only [Act.put, List.setIfInBounds_toArray, List.set_cons_zero, List.set_cons_succ, i64_w, i32_w]; rfl
      refine pure_ (i := 7) (N := some 28) (v := ?_) (a' := ?_) #[true, true, true, true, true, true, true, true, true, false, false] rfl rfl (any_of HT_.out (by kernel_rfl)) (fun _ _ _ h => h) (Or.inl ⟨by rfl, ?_⟩) ?_ ?_
      rotate_left; · intro w'; go_simp; with_reducible rfl
      rotate_left; · simp only [Act.put, List.setIfInBounds_toArray, List.set_cons_zero, List.set_cons_succ, i64_w, i32_w]; rfl
      exact norm_ (by simp only [putAll, Act.put, List.setIfInBounds_toArray, List.set_cons_zero, List.set_cons_succ]) (hCont (.slice Ao21 t262.length co21, v270, gb273) _ ⟨hHeld, (by exact Kd.R_nw (Kd.R_mono HO264.out (fun _ hk => hk.2))), (by exact Kd.R_nw (Kd.R_mono HO271.out (fun _ hk => hk.2))), (by exact blk_nw BK258.out), (by exact blk_nw BK259.out), (by exact blk_nw BK273.out), GW273.out, GE273.out, NB258_273.out, NB273_258.out, NB259_273.out, NB273_259.out, (by exact bel0)⟩)
    ·skip
     refine box_step ?hg (N := 6) ?hd (cs := #[.int .i64 0, .slice none 0 0]) (t := 41) ?hr ?_; (case hd => rfl); (case hg => rfl); (case hr => first | (go_simp; done) | (go_simp; rfl))
     intro gb273 hg w19 hbox hb
     have n_ := an (Kd.R_below (by exact Kd.R_nw HO264.out) hb) (an (blk_below (blk_nw BK258.out) hb) (an (blk_below (blk_nw BK259.out) hb) (an (below_step (by exact bel0) hb) (an (hbox) (an ((by rw [hg]; exact (below_size (by exact bel0)) : w.heap.size ≤ gb273)) (an ((by rw [hg]; exact (below_size (by exact bel0)) : w.heap.size ≤ gb273)) (an ((by rw [hg]; exact Nat.ne_of_lt (blk_lt (blk_nw BK258.out)) : gb258 ≠ gb273)) (an ((by rw [hg]; exact Nat.ne_of_gt (blk_lt (blk_nw BK258.out)) : gb273 ≠ gb258)) (an ((by rw [hg]; exact Nat.ne_of_lt (blk_lt (blk_nw BK259.out)) : gb259 ≠ gb273)) (an ((by rw [hg]; exact Nat.ne_of_gt (blk_lt (blk_nw BK259.out)) : gb273 ≠ gb259)) (trivial)))))))))))
     clear HO264 BK258 BK259 HB
     obtain ⟨HO264, BK258, BK259, HB, BK273, GW273, GE273, NB258_273, NB273_258, NB259_273, NB273_259, -⟩ := n_
     clear hb hbox hg
     refine hK.out _ _ ⟨(blk_cell BK258.out 0).trans rfl, (blk_cell BK258.out 1).trans rfl, (blk_cell BK259.out 0).trans rfl, (blk_cell BK259.out 1).trans rfl, (blk_cell BK259.out 2).trans rfl⟩ (fun hHeld => ?_)
     clear hK K
     refine norm_ (a' := ?_) ?_ ?_
     rotate_left
     ·show Act.put _ (some 6) _ = _
      simp only [Act.put, List.setIfInBounds_toArray, List.set_cons_zero, List.set_cons_succ, i64_w, i32_w]
      rfl
     refine one_ (i := 3) (N := some 25) #[true, true, true, true, false, false, false, false, true, false, false] rfl rfl (one_of HT_.out (by kernel_rfl)) (by decide) (fun K hK => ?_)
     refine goes_ Try.func52 (by kernel_rfl) rfl #[.agg #[.int .i64 a1_0, .int .i64 a1_1, .int .i64 a1_2]] (by rfl) rfl rfl (by (try simp only [List.map_toArray, List.map_cons, List.map_nil]); first | done | rfl | (simp only [List.length_drop, List.length_take]; rfl)) ?_
     with_reducible refine (laws_toMember.calls a1_0 a1_1 a1_2 t265 t266 t267 _ A11.out).mono ?_
     rintro e w20 ⟨rfl, hb⟩
     refine ⟨_, rfl, ?_⟩
     have n_ := an (Kd.R_below (by exact Kd.R_nw HO264.out) hb) (an (blk_below (blk_nw BK258.out) hb) (an (blk_below (blk_nw BK259.out) hb) (an (blk_below (blk_nw BK273.out) hb) (an (below_step (by exact bel0) hb) (trivial)))))
     clear HO264 BK258 BK259 BK273 HB
     obtain ⟨HO264, BK258, BK259, BK273, HB, -⟩ := n_
     (try clear hb); (try clear hb2); (try clear hk); (try clear hi)
     obtain ⟨Ao21, co21, eo21⟩ := Kd.R_slice HO264.out
     (first | subst eo21 | (injection eo21 with f1_ f2_ f3_; have f4_ := f1_.symm; have f5_ := f3_.symm; clear f1_ f2_ f3_; subst f4_; subst f5_))
     refine hK.out _ _ ⟨(blk_cell BK258.out 0).trans rfl, (blk_cell BK258.out 1).trans rfl, (blk_cell BK259.out 0).trans rfl, (blk_cell BK259.out 1).trans rfl, (blk_cell BK259.out 2).trans rfl⟩ (fun hHeld => ?_)
     clear hK K
     refine norm_ (a' := ?_) ?_ ?_
     rotate_left
     ·show Act.put _ (some 25) _ = _
      simp only [Act.put, List.setIfInBounds_toArray, List.set_cons_zero, List.set_cons_succ, i64_w, i32_w]
      rfl
     refine one_ (i := 4) (N := some 26) #[true, true, true, true, true, false, false, false, true, false, false] rfl rfl (one_of HT_.out (by kernel_rfl)) (by decide) (fun K hK => ?_)
     refine goes_ Try.func51 (by kernel_rfl) rfl #[.agg #[.int .i64 t261, .slice Ao21 t262.length co21], .agg #[.int .i64 t265, .int .i64 t266, .int .i64 t267]] (by rfl) rfl rfl (by (try simp only [List.map_toArray, List.map_cons, List.map_nil]); first | done | rfl | (simp only [List.length_drop, List.length_take]; rfl)) ?_
     with_reducible refine (spec_Heard.calls k t261 _ _ t262 t265 t266 t267 t268 t269 t272 _ ?side1 ?side2 A12.out).mono ?_
     (case side1 => repeat (first | exact (Kd.R_reads' HO264.out).2.2 | (with_reducible refine Kd.C_alloc ?_ _) | (with_reducible refine Kd.C_drewN ?_ _) | (with_reducible refine Kd.C_drew ?_)))
     (case side2 => exact (Kd.R_reads' HO264.out).2.1)
     rintro e w22 ⟨v270, rfl, ho0, hb⟩
     refine ⟨_, rfl, ?_⟩
     have n_ := an (Kd.R_elder' (by exact Kd.R_nw HO264.out) (Kd.R_base ho0) hb) (an (Kd.R_lower (Kd.R_new' ho0 (Kd.R_lt (by exact Kd.R_nw HO264.out))) (below_size (by exact bel0))) (an (blk_below (blk_nw BK258.out) hb) (an (blk_below (blk_nw BK259.out) hb) (an (blk_below (blk_nw BK273.out) hb) (an (below_step (by exact bel0) hb) (trivial))))))
     clear HO264 BK258 BK259 BK273 HB
     obtain ⟨HO264, HO271, BK258, BK259, BK273, HB, -⟩ := n_
     (try clear hb); (try clear hb2); (try clear hk); (try clear hi); (try clear ho0)
     refine hK.out _ _ ⟨(blk_cell BK258.out 0).trans rfl, (blk_cell BK258.out 1).trans rfl, (blk_cell BK259.out 0).trans rfl, (blk_cell BK259.out 1).trans rfl, (blk_cell BK259.out 2).trans rfl⟩ (fun hHeld => ?_)
     clear hK K
     refine norm_ (a' := ?_) ?_ ?_
     rotate_left
     ·show Act.put _ (some 26) _ = _
      simp only [Act.put, List.setIfInBounds_toArray, List.set_cons_zero, List.set_cons_succ, i64_w, i32_w]
      rfl
     refine pure_ (i := 5) (N := some 21) (v := ?_) (a' := ?_) #[true, true, true, true, true, true, false, false, true, false, false] rfl rfl (any_of HT_.out (by kernel_rfl)) (fun _ _ _ h => h) (Or.inl ⟨by rfl, ?_⟩) ?_ ?_
     rotate_left; · intro w'; go_simp; with_reducible rfl
     rotate_left; · simp only [Act.put, List.setIfInBounds_toArray, List.set_cons_zero, List.set_cons_succ, i64_w, i32_w]; rfl
     refine pure_ (i := 6) (N := some 27) (v := ?_) (a' := ?_) #[true, true, true, true, true, true, true, false, true, false, false] rfl rfl (any_of HT_.out (by kernel_rfl)) (fun _ _ _ h => h) (Or.inl ⟨by rfl, ?_⟩) ?_ ?_
     rotate_left; · intro w'; go_simp; with_reducible rfl
     rotate_left; · simp only [Act.put, List.setIfInBounds_toArray, List.set_cons_zero, List.set_cons_succ, i64_w, i32_w]; rfl
     refine pure_ (i := 7) (N := some 28) (v := ?_) (a' := ?_) #[true, true, true, true, true, true, true, true, true, false, false] rfl rfl (any_of HT_.out (by kernel_rfl)) (fun _ _ _ h => h) (Or.inl ⟨by rfl, ?_⟩) ?_ ?_
     rotate_left; · intro w'; go_simp; with_reducible rfl
     rotate_left; · simp only [Act.put, List.setIfInBounds_toArray, List.set_cons_zero, List.set_cons_succ, i64_w, i32_w]; rfl
     exact norm_ (by simp only [putAll, Act.put, List.setIfInBounds_toArray, List.set_cons_zero, List.set_cons_succ]) (hCont (.slice Ao21 t262.length co21, v270, gb273) _ ⟨hHeld, (by exact Kd.R_nw (Kd.R_mono HO264.out (fun _ hk => hk.2))), (by exact Kd.R_nw (Kd.R_mono HO271.out (fun _ hk => hk.2))), (by exact blk_nw BK258.out), (by exact blk_nw BK259.out), (by exact blk_nw BK273.out), GW273.out, GE273.out, NB258_273.out, NB273_258.out, NB259_273.out, NB273_259.out, (by exact bel0)⟩)
   ·skip
    refine box_step ?hg (N := 6) ?hd (cs := #[.int .i64 0, .slice none 0 0]) (t := 41) ?hr ?_; (case hd => rfl); (case hg => rfl); (case hr => first | (go_simp; done) | (go_simp; rfl))
    intro gb273 hg w18 hbox hb
    have n_ := an (blk_below (blk_nw BK258.out) hb) (an (blk_below (blk_nw BK259.out) hb) (an (below_step (by exact bel0) hb) (an (hbox) (an ((by rw [hg]; exact (below_size (by exact bel0)) : w.heap.size ≤ gb273)) (an ((by rw [hg]; exact (below_size (by exact bel0)) : w.heap.size ≤ gb273)) (an ((by rw [hg]; exact Nat.ne_of_lt (blk_lt (blk_nw BK258.out)) : gb258 ≠ gb273)) (an ((by rw [hg]; exact Nat.ne_of_gt (blk_lt (blk_nw BK258.out)) : gb273 ≠ gb258)) (an ((by rw [hg]; exact Nat.ne_of_lt (blk_lt (blk_nw BK259.out)) : gb259 ≠ gb273)) (an ((by rw [hg]; exact Nat.ne_of_gt (blk_lt (blk_nw BK259.out)) : gb273 ≠ gb259)) (trivial))))))))))
    clear BK258 BK259 HB
    obtain ⟨BK258, BK259, HB, BK273, GW273, GE273, NB258_273, NB273_258, NB259_273, NB273_259, -⟩ := n_
    clear hb hbox hg
    refine hK.out _ _ ⟨(blk_cell BK258.out 0).trans rfl, (blk_cell BK258.out 1).trans rfl, (blk_cell BK259.out 0).trans rfl, (blk_cell BK259.out 1).trans rfl, (blk_cell BK259.out 2).trans rfl⟩ (fun hHeld => ?_)
    clear hK K
    refine norm_ (a' := ?_) ?_ ?_
    rotate_left
    ·show Act.put _ (some 6) _ = _
     simp only [Act.put, List.setIfInBounds_toArray, List.set_cons_zero, List.set_cons_succ, i64_w, i32_w]
     rfl
    refine one_ (i := 1) (N := some 23) #[true, true, true, false, false, false, false, false, true, false, false] rfl rfl (one_of HT_.out (by kernel_rfl)) (by decide) (fun K hK => ?_)
    refine goes_ Try.func25 (by kernel_rfl) rfl #[.agg #[.int .i64 a0_0, .slice A0_1 l0_1.length c0_1]] (by rfl) rfl rfl (by (try simp only [List.map_toArray, List.map_cons, List.map_nil]); first | done | rfl | (simp only [List.length_drop, List.length_take]; rfl)) ?_
    with_reducible refine (laws_toTable.calls k a0_0 _ _ l0_1 t261 t262 _ ?side1 ?side2 A10.out).mono ?_
    (case side1 => repeat (first | exact (Kd.C_below HR0_1.out HB.out) | (with_reducible refine Kd.C_alloc ?_ _) | (with_reducible refine Kd.C_drewN ?_ _) | (with_reducible refine Kd.C_drew ?_)))
    (case side2 => exact HC0_1.out)
    rintro e w19 ⟨v263, rfl, ho0, hb⟩
    refine ⟨_, rfl, ?_⟩
    have n_ := an (Kd.R_lower ho0 (below_size (by exact bel0))) (an (blk_below (blk_nw BK258.out) hb) (an (blk_below (blk_nw BK259.out) hb) (an (blk_below (blk_nw BK273.out) hb) (an (below_step (by exact bel0) hb) (trivial)))))
    clear BK258 BK259 BK273 HB
    obtain ⟨HO264, BK258, BK259, BK273, HB, -⟩ := n_
    (try clear hb); (try clear hb2); (try clear hk); (try clear hi); (try clear ho0)
    refine hK.out _ _ ⟨(blk_cell BK258.out 0).trans rfl, (blk_cell BK258.out 1).trans rfl, (blk_cell BK259.out 0).trans rfl, (blk_cell BK259.out 1).trans rfl, (blk_cell BK259.out 2).trans rfl⟩ (fun hHeld => ?_)
    clear hK K
    refine norm_ (a' := ?_) ?_ ?_
    rotate_left
    ·show Act.put _ (some 23) _ = _
     simp only [Act.put, List.setIfInBounds_toArray, List.set_cons_zero, List.set_cons_succ, i64_w, i32_w]
     rfl
    refine one_ (i := 3) (N := some 25) #[true, true, true, true, false, false, false, false, true, false, false] rfl rfl (one_of HT_.out (by kernel_rfl)) (by decide) (fun K hK => ?_)
    refine goes_ Try.func52 (by kernel_rfl) rfl #[.agg #[.int .i64 a1_0, .int .i64 a1_1, .int .i64 a1_2]] (by rfl) rfl rfl (by (try simp only [List.map_toArray, List.map_cons, List.map_nil]); first | done | rfl | (simp only [List.length_drop, List.length_take]; rfl)) ?_
    with_reducible refine (laws_toMember.calls a1_0 a1_1 a1_2 t265 t266 t267 _ A11.out).mono ?_
    rintro e w20 ⟨rfl, hb⟩
    refine ⟨_, rfl, ?_⟩
    have n_ := an (Kd.R_below (by exact Kd.R_nw HO264.out) hb) (an (blk_below (blk_nw BK258.out) hb) (an (blk_below (blk_nw BK259.out) hb) (an (blk_below (blk_nw BK273.out) hb) (an (below_step (by exact bel0) hb) (trivial)))))
    clear HO264 BK258 BK259 BK273 HB
    obtain ⟨HO264, BK258, BK259, BK273, HB, -⟩ := n_
    (try clear hb); (try clear hb2); (try clear hk); (try clear hi)
    obtain ⟨Ao21, co21, eo21⟩ := Kd.R_slice HO264.out
    (first | subst eo21 | (injection eo21 with f1_ f2_ f3_; have f4_ := f1_.symm; have f5_ := f3_.symm; clear f1_ f2_ f3_; subst f4_; subst f5_))
    refine hK.out _ _ ⟨(blk_cell BK258.out 0).trans rfl, (blk_cell BK258.out 1).trans rfl, (blk_cell BK259.out 0).trans rfl, (blk_cell BK259.out 1).trans rfl, (blk_cell BK259.out 2).trans rfl⟩ (fun hHeld => ?_)
    clear hK K
    refine norm_ (a' := ?_) ?_ ?_
    rotate_left
    ·show Act.put _ (some 25) _ = _
     simp only [Act.put, List.setIfInBounds_toArray, List.set_cons_zero, List.set_cons_succ, i64_w, i32_w]
     rfl
    refine one_ (i := 4) (N := some 26) #[true, true, true, true, true, false, false, false, true, false, false] rfl rfl (one_of HT_.out (by kernel_rfl)) (by decide) (fun K hK => ?_)
    refine goes_ Try.func51 (by kernel_rfl) rfl #[.agg #[.int .i64 t261, .slice Ao21 t262.length co21], .agg #[.int .i64 t265, .int .i64 t266, .int .i64 t267]] (by rfl) rfl rfl (by (try simp only [List.map_toArray, List.map_cons, List.map_nil]); first | done | rfl | (simp only [List.length_drop, List.length_take]; rfl)) ?_
    with_reducible refine (spec_Heard.calls k t261 _ _ t262 t265 t266 t267 t268 t269 t272 _ ?side1 ?side2 A12.out).mono ?_
    (case side1 => repeat (first | exact (Kd.R_reads' HO264.out).2.2 | (with_reducible refine Kd.C_alloc ?_ _) | (with_reducible refine Kd.C_drewN ?_ _) | (with_reducible refine Kd.C_drew ?_)))
    (case side2 => exact (Kd.R_reads' HO264.out).2.1)
    rintro e w22 ⟨v270, rfl, ho0, hb⟩
    refine ⟨_, rfl, ?_⟩
    have n_ := an (Kd.R_elder' (by exact Kd.R_nw HO264.out) (Kd.R_base ho0) hb) (an (Kd.R_lower (Kd.R_new' ho0 (Kd.R_lt (by exact Kd.R_nw HO264.out))) (below_size (by exact bel0))) (an (blk_below (blk_nw BK258.out) hb) (an (blk_below (blk_nw BK259.out) hb) (an (blk_below (blk_nw BK273.out) hb) (an (below_step (by exact bel0) hb) (trivial))))))
    clear HO264 BK258 BK259 BK273 HB
    obtain ⟨HO264, HO271, BK258, BK259, BK273, HB, -⟩ := n_
    (try clear hb); (try clear hb2); (try clear hk); (try clear hi); (try clear ho0)
    refine hK.out _ _ ⟨(blk_cell BK258.out 0).trans rfl, (blk_cell BK258.out 1).trans rfl, (blk_cell BK259.out 0).trans rfl, (blk_cell BK259.out 1).trans rfl, (blk_cell BK259.out 2).trans rfl⟩ (fun hHeld => ?_)
    clear hK K
    refine norm_ (a' := ?_) ?_ ?_
    rotate_left
    ·show Act.put _ (some 26) _ = _
     simp only [Act.put, List.setIfInBounds_toArray, List.set_cons_zero, List.set_cons_succ, i64_w, i32_w]
     rfl
    refine pure_ (i := 5) (N := some 21) (v := ?_) (a' := ?_) #[true, true, true, true, true, true, false, false, true, false, false] rfl rfl (any_of HT_.out (by kernel_rfl)) (fun _ _ _ h => h) (Or.inl ⟨by rfl, ?_⟩) ?_ ?_
    rotate_left; · intro w'; go_simp; with_reducible rfl
    rotate_left; · simp only [Act.put, List.setIfInBounds_toArray, List.set_cons_zero, List.set_cons_succ, i64_w, i32_w]; rfl
    refine pure_ (i := 6) (N := some 27) (v := ?_) (a' := ?_) #[true, true, true, true, true, true, true, false, true, false, false] rfl rfl (any_of HT_.out (by kernel_rfl)) (fun _ _ _ h => h) (Or.inl ⟨by rfl, ?_⟩) ?_ ?_
    rotate_left; · intro w'; go_simp; with_reducible rfl
    rotate_left; · simp only [Act.put, List.setIfInBounds_toArray, List.set_cons_zero, List.set_cons_succ, i64_w, i32_w]; rfl
    refine pure_ (i := 7) (N := some 28) (v := ?_) (a' := ?_) #[true, true, true, true, true, true, true, true, true, false, false] rfl rfl (any_of HT_.out (by kernel_rfl)) (fun _ _ _ h => h) (Or.inl ⟨by rfl, ?_⟩) ?_ ?_
    rotate_left; · intro w'; go_simp; with_reducible rfl
    rotate_left; · simp only [Act.put, List.setIfInBounds_toArray, List.set_cons_zero, List.set_cons_succ, i64_w, i32_w]; rfl
    exact norm_ (by simp only [putAll, Act.put, List.setIfInBounds_toArray, List.set_cons_zero, List.set_cons_succ]) (hCont (.slice Ao21 t262.length co21, v270, gb273) _ ⟨hHeld, (by exact Kd.R_nw (Kd.R_mono HO264.out (fun _ hk => hk.2))), (by exact Kd.R_nw (Kd.R_mono HO271.out (fun _ hk => hk.2))), (by exact blk_nw BK258.out), (by exact blk_nw BK259.out), (by exact blk_nw BK273.out), GW273.out, GE273.out, NB258_273.out, NB273_258.out, NB259_273.out, NB273_259.out, (by exact bel0)⟩)
  rintro ⟨v263, v270, gb273⟩ w23 ⟨hS_, h0_, h1_, h2_, h3_, h4_, h5_, h6_, h7_, h8_, h9_, h10_, h11_⟩
  have n0_ : Aside0 (Kd.R k82 82 w23 w.heap.size (fun k_ => some k_ ≠ (v270 : Value).ownBlock) v263 t262) := ⟨h0_⟩
  have n1_ : Aside0 (Kd.R k82 82 w23 w.heap.size (fun k_ => some k_ ≠ (v263 : Value).ownBlock) v270 t269) := ⟨h1_⟩
  have n2_ : Aside0 (w23.heap[gb258]? = some (.cells #[.int .i64 a0_0, .slice A0_1 l0_1.length c0_1] 37 (0, 0))) := ⟨h2_⟩
  have n3_ : Aside0 (w23.heap[gb259]? = some (.cells #[.int .i64 a1_0, .int .i64 a1_1, .int .i64 a1_2] 80 (0, 0))) := ⟨h3_⟩
  have n4_ : Aside0 (w23.heap[gb273]? = some (.cells #[.int .i64 0, .slice none 0 0] 41 (0, 0))) := ⟨h4_⟩
  have n5_ : Aside0 (w.heap.size ≤ gb273) := ⟨h5_⟩
  have n6_ : Aside0 (w.heap.size ≤ gb273) := ⟨h6_⟩
  have n7_ : Aside0 (gb258 ≠ gb273) := ⟨h7_⟩
  have n8_ : Aside0 (gb273 ≠ gb258) := ⟨h8_⟩
  have n9_ : Aside0 (gb259 ≠ gb273) := ⟨h9_⟩
  have n10_ : Aside0 (gb273 ≠ gb259) := ⟨h10_⟩
  have n11_ : Aside0 (Below w.heap.size w w23) := ⟨h11_⟩
  clear BK258; clear BK259; clear HB; clear h0_ h1_ h2_ h3_ h4_ h5_ h6_ h7_ h8_ h9_ h10_ h11_
  have HO264 := n0_
  have HO271 := n1_
  have BK258 := n2_
  have BK259 := n3_
  have BK273 := n4_
  have GW273 := n5_
  have GE273 := n6_
  have NB258_273 := n7_
  have NB273_258 := n8_
  have NB259_273 := n9_
  have NB273_259 := n10_
  have HB := n11_
  clear n0_ n1_ n2_ n3_ n4_ n5_ n6_ n7_ n8_ n9_ n10_ n11_
  have hHeld : w23.cell? ⟨gb258, 0, none⟩ = some (.int .i64 a0_0) ∧ w23.cell? ⟨gb258, 1, none⟩ = some (.slice A0_1 l0_1.length c0_1) ∧ w23.cell? ⟨gb259, 0, none⟩ = some (.int .i64 a1_0) ∧ w23.cell? ⟨gb259, 1, none⟩ = some (.int .i64 a1_1) ∧ w23.cell? ⟨gb259, 2, none⟩ = some (.int .i64 a1_2) := hS_
  obtain ⟨Ao25, co25, eo25⟩ := Kd.R_slice HO271.out
  (first | subst eo25 | (injection eo25 with f1_ f2_ f3_; have f4_ := f1_.symm; have f5_ := f3_.symm; clear f1_ f2_ f3_; subst f4_; subst f5_))
  refine norm_ (a' := ?_) ?_ ?_
  rotate_left; · simp only [putAll, Act.put, List.setIfInBounds_toArray, List.set_cons_zero, List.set_cons_succ]; rfl
  refine one_ (i := 9) (N := none) #[true, true, true, true, true, true, true, true, true, true, false] rfl rfl (one_of HT_.out (by kernel_rfl)) (by decide) (fun K hK => ?_)
  have hs24 : w23.cell? ⟨gb273, 0, none⟩ = some (.int .i64 0) := (blk_cell BK273.out 0).trans rfl
  have hfs24 := blk_frozen BK273.out 0
  have hns24_0 := NB258_273.out; have hns24_1 := NB259_273.out; have hms24_0 := NB273_258.out; have hms24_1 := NB273_259.out
  have hs26 : w23.cell? ⟨gb273, 1, none⟩ = some (.slice none 0 0) := (blk_cell BK273.out 1).trans rfl
  have hfs26 := blk_frozen BK273.out 1
  have hns26_0 := NB258_273.out; have hns26_1 := NB259_273.out; have hms26_0 := NB273_258.out; have hms26_1 := NB273_259.out
  refine skip_ (w1 := ?_) (by rfl) rfl ?_ ?_
  rotate_left
  ·go_simp
   rfl
  refine hK.out _ _ ⟨((cell_far (p := ⟨gb273, _, none⟩) NB258_273.out _).trans (((cell_far (p := ⟨gb273, _, none⟩) NB258_273.out _).trans (hHeld.1)))), ((cell_far (p := ⟨gb273, _, none⟩) NB258_273.out _).trans (((cell_far (p := ⟨gb273, _, none⟩) NB258_273.out _).trans (hHeld.2.1)))), ((cell_far (p := ⟨gb273, _, none⟩) NB259_273.out _).trans (((cell_far (p := ⟨gb273, _, none⟩) NB259_273.out _).trans (hHeld.2.2.1)))), ((cell_far (p := ⟨gb273, _, none⟩) NB259_273.out _).trans (((cell_far (p := ⟨gb273, _, none⟩) NB259_273.out _).trans (hHeld.2.2.2.1)))), ((cell_far (p := ⟨gb273, _, none⟩) NB259_273.out _).trans (((cell_far (p := ⟨gb273, _, none⟩) NB259_273.out _).trans (hHeld.2.2.2.2))))⟩ (fun hHeld => ?_)
  clear hK K
  refine pure_ (i := 10) (N := some 7) (v := ?_) (a' := ?_) #[true, true, true, true, true, true, true, true, true, true, true] rfl rfl (any_of HT_.out (by kernel_rfl)) (fun _ _ _ h => h) (Or.inl ⟨by rfl, ?_⟩) ?_ ?_
  rotate_left; · intro w'; go_simp; with_reducible rfl
  rotate_left; · simp only [Act.put, List.setIfInBounds_toArray, List.set_cons_zero, List.set_cons_succ, i64_w, i32_w]; rfl
  refine done_ (done_of HT_.out (by kernel_rfl)) ?_
  have hnb27 := NB258_259.out; have hnc27 := NB259_258.out; have hnb28 := NB258_273.out; have hnc28 := NB273_258.out; obtain ⟨hcz29_0, hcz29_1⟩ := blkz2 BK258.out; have hfz29_0 := blkf BK258.out
  try go_wp2_with (first | ((with_reducible refine gate_callee (f := 25) rfl ?_); refine goesL_ (some 30) rfl rfl Try.func25 (by kernel_rfl) rfl #[.agg #[.int .i64 a0_0, .slice A0_1 l0_1.length c0_1]] rfl (by (try simp only [List.map_toArray, List.map_cons, List.map_nil]); first | done | rfl | (simp only [List.length_drop, List.length_take]; rfl)) ?_; (with_reducible refine (laws_toTable.calls k a0_0 _ _ l0_1 t274 t275 _ ?side1 ?side2 A13.out).mono ?_); (case side1 => exact Kd.C_below HR0_1.out (by exact bel0)); (case side2 => exact HC0_1.out); rintro e w30 ⟨v276, rfl, ho0, hb⟩; refine ⟨_, rfl, ?_⟩; have n_ := an (Kd.R_elder' (by exact (Kd.R_farN HO264.out BK273.out)) (Kd.R_base ho0) hb) (an (Kd.R_elder' (by exact (Kd.R_farN HO271.out BK273.out)) (Kd.R_base ho0) hb) (an (Kd.R_lower (Kd.R_new' (Kd.R_new' ho0 (Kd.R_lt (by exact (Kd.R_farN HO264.out BK273.out)))) (Kd.R_lt (by exact (Kd.R_farN HO271.out BK273.out)))) (below_size (by exact bel0))) (an (blk_below (blk_kb BK258.out NB258_273.out) hb) (an (blk_below (blk_kb BK259.out NB259_273.out) hb) (an (blk_below (g := gb273) (o := .cells #[.int .i64 t268, .slice Ao25 t269.length co25] 41 (0, 0)) (by (with_reducible repeat (first | refine blk_drewN ?_ _ | refine blk_drew ?_ | refine blk_alloc ?_ _)); exact blk_fill2 BK273.out) hb) (an (below_step (by exact bel0) hb) (trivial))))))); clear HO264 HO271 BK258 BK259 BK273 HB; obtain ⟨HO264, HO271, HO277, BK258, BK259, BK273, HB, -⟩ := n_; (try clear hb); (try clear hb2); (try clear hk); (try clear hi); (try clear ho0)) | ((with_reducible refine gate_dst (N := 8) rfl ?_); refine box_event ?hg (N := 8) ?hd (cs := #[.int .i64 0, .slice none 0 0]) (t := 41) ?hr ?_; (case hd => rfl); (case hg => rfl); (case hr => first | (go_simp; done) | (go_simp; rfl)); intro gb278 hg w31 hbox hb; have n_ := an (Kd.R_below (by exact Kd.R_nw HO264.out) hb) (an (Kd.R_below (by exact Kd.R_nw HO271.out) hb) (an (Kd.R_below (by exact Kd.R_nw HO277.out) hb) (an (blk_below (blk_nw BK258.out) hb) (an (blk_below (blk_nw BK259.out) hb) (an (blk_below (blk_nw BK273.out) hb) (an (below_step (by exact bel0) hb) (an (hbox) (an ((by rw [hg]; exact (below_size (by exact bel0)) : w.heap.size ≤ gb278)) (an ((by rw [hg]; exact (below_size (by exact bel0)) : w.heap.size ≤ gb278)) (an ((by rw [hg]; exact Nat.ne_of_lt (blk_lt (blk_nw BK258.out)) : gb258 ≠ gb278)) (an ((by rw [hg]; exact Nat.ne_of_gt (blk_lt (blk_nw BK258.out)) : gb278 ≠ gb258)) (an ((by rw [hg]; exact Nat.ne_of_lt (blk_lt (blk_nw BK259.out)) : gb259 ≠ gb278)) (an ((by rw [hg]; exact Nat.ne_of_gt (blk_lt (blk_nw BK259.out)) : gb278 ≠ gb259)) (an ((by rw [hg]; exact Nat.ne_of_lt (blk_lt (blk_nw BK273.out)) : gb273 ≠ gb278)) (an ((by rw [hg]; exact Nat.ne_of_gt (blk_lt (blk_nw BK273.out)) : gb278 ≠ gb273)) (trivial)))))))))))))))); clear HO264 HO271 HO277 BK258 BK259 BK273 HB; obtain ⟨HO264, HO271, HO277, BK258, BK259, BK273, HB, BK278, GW278, GE278, NB258_278, NB278_258, NB259_278, NB278_259, NB273_278, NB278_273, -⟩ := n_; clear hb hbox hg; have hnb32 := NB278_258.out; have hnc32 := NB258_278.out; have hnb33 := NB278_259.out; have hnc33 := NB259_278.out; have hnb34 := NB278_273.out; have hnc34 := NB273_278.out; obtain ⟨hcz35_0, hcz35_1⟩ := blkz2 BK278.out; have hfz35_0 := blkf BK278.out; obtain ⟨Ao36, co36, eo36⟩ := Kd.R_slice HO277.out; subst eo36))
  have n0_ : Aside0 (Kd.R k82 82 ((w31.setCell ⟨gb278, 0, none⟩ (.int .i64 t274)).setCell ⟨gb278, 1, none⟩ (.slice Ao36 t275.length co36)) w.heap.size (fun k_ => some k_ ≠ (.slice Ao25 t269.length co25 : Value).ownBlock ∧ some k_ ≠ (.slice Ao36 t275.length co36 : Value).ownBlock) v263 t262) := ⟨by exact (Kd.R_farN HO264.out BK278.out)⟩
  have n1_ : Aside0 (Kd.R k82 82 ((w31.setCell ⟨gb278, 0, none⟩ (.int .i64 t274)).setCell ⟨gb278, 1, none⟩ (.slice Ao36 t275.length co36)) w.heap.size (fun k_ => some k_ ≠ (v263 : Value).ownBlock ∧ some k_ ≠ (.slice Ao36 t275.length co36 : Value).ownBlock) (.slice Ao25 t269.length co25) t269) := ⟨by exact (Kd.R_farN HO271.out BK278.out)⟩
  have n2_ : Aside0 (Kd.R k82 82 ((w31.setCell ⟨gb278, 0, none⟩ (.int .i64 t274)).setCell ⟨gb278, 1, none⟩ (.slice Ao36 t275.length co36)) w.heap.size (fun k_ => some k_ ≠ (v263 : Value).ownBlock ∧ some k_ ≠ (.slice Ao25 t269.length co25 : Value).ownBlock) (.slice Ao36 t275.length co36) t275) := ⟨by exact Kd.R_mono (Kd.R_farN HO277.out BK278.out) (fun _ hk => ⟨hk.1.2, hk.2⟩)⟩
  have n3_ : Aside0 (((w31.setCell ⟨gb278, 0, none⟩ (.int .i64 t274)).setCell ⟨gb278, 1, none⟩ (.slice Ao36 t275.length co36)).heap[gb258]? = some (.cells #[.int .i64 a0_0, .slice A0_1 l0_1.length c0_1] 37 (0, 0))) := ⟨by exact blk_kb BK258.out NB258_278.out⟩
  have n4_ : Aside0 (((w31.setCell ⟨gb278, 0, none⟩ (.int .i64 t274)).setCell ⟨gb278, 1, none⟩ (.slice Ao36 t275.length co36)).heap[gb259]? = some (.cells #[.int .i64 a1_0, .int .i64 a1_1, .int .i64 a1_2] 80 (0, 0))) := ⟨by exact blk_kb BK259.out NB259_278.out⟩
  have n5_ : Aside0 (((w31.setCell ⟨gb278, 0, none⟩ (.int .i64 t274)).setCell ⟨gb278, 1, none⟩ (.slice Ao36 t275.length co36)).heap[gb273]? = some (.cells #[.int .i64 t268, .slice Ao25 t269.length co25] 41 (0, 0))) := ⟨by exact blk_kb BK273.out NB273_278.out⟩
  have n6_ : Aside0 (((w31.setCell ⟨gb278, 0, none⟩ (.int .i64 t274)).setCell ⟨gb278, 1, none⟩ (.slice Ao36 t275.length co36)).heap[gb278]? = some (.cells #[.int .i64 t274, .slice Ao36 t275.length co36] 41 (0, 0))) := ⟨by (with_reducible repeat (first | refine blk_drewN ?_ _ | refine blk_drew ?_ | refine blk_alloc ?_ _)); exact blk_fill2 BK278.out⟩
  have n7_ : Aside0 (Below w.heap.size w ((w31.setCell ⟨gb278, 0, none⟩ (.int .i64 t274)).setCell ⟨gb278, 1, none⟩ (.slice Ao36 t275.length co36))) := ⟨by exact bel0⟩
  (try clear HO264); (try clear HO271); (try clear HO277); (try clear BK258); (try clear BK259); (try clear BK273); (try clear BK278); (try clear HB)
  generalize ((w31.setCell ⟨gb278, 0, none⟩ (.int .i64 t274)).setCell ⟨gb278, 1, none⟩ (.slice Ao36 t275.length co36)) = w37 at n0_ n1_ n2_ n3_ n4_ n5_ n6_ n7_ ⊢
  have HO264 := n0_
  have HO271 := n1_
  have HO277 := n2_
  have BK258 := n3_
  have BK259 := n4_
  have BK273 := n5_
  have BK278 := n6_
  have HB := n7_
  clear n0_ n1_ n2_ n3_ n4_ n5_ n6_ n7_
  have n_ := an (Kd.R_drew HO264.out) (an (Kd.R_drew HO271.out) (an (Kd.R_drew HO277.out) (an (blk_drew BK258.out) (an (blk_drew BK259.out) (an (blk_drew BK273.out) (an (blk_drew BK278.out) (an (below_drew1 HB.out) (trivial))))))))
  clear HO264 HO271 HO277 BK258 BK259 BK273 BK278 HB
  obtain ⟨HO264, HO271, HO277, BK258, BK259, BK273, BK278, HB, -⟩ := n_
  refine start_ (n := 10) (S := fun w' => w'.cell? ⟨gb278, 0, none⟩ = some (.int .i64 t274) ∧ w'.cell? ⟨gb278, 1, none⟩ = some (.slice Ao36 t275.length co36) ∧ w'.cell? ⟨gb259, 0, none⟩ = some (.int .i64 a1_0) ∧ w'.cell? ⟨gb259, 1, none⟩ = some (.int .i64 a1_1) ∧ w'.cell? ⟨gb259, 2, none⟩ = some (.int .i64 a1_2)) (ds := []) #[false, false, false, false, false, false, false, false, false, false] (by kernel_rfl) rfl rfl ⟨(blk_cell BK278.out 0).trans rfl, (blk_cell BK278.out 1).trans rfl, (blk_cell BK259.out 0).trans rfl, (blk_cell BK259.out 1).trans rfl, (blk_cell BK259.out 2).trans rfl⟩ (fun hHeld => ?_); refine with_tabW laws_FnExactHeard.tab7 laws_FnExactHeard.bits7 (fun HT_ HW_ => ?_)
  generalize w37.drew = w38 at HO264 HO271 HO277 BK258 BK259 BK273 BK278 HB hHeld ⊢
  refine take_ (i := 0) (N := some 32) (v := ?_) (a' := ?_) #[true, false, false, false, false, false, false, false, false, false] rfl rfl (take_ofW HT_.out HW_.out (by kernel_rfl)) (fun _ _ _ h => h) (Or.inl ⟨by rfl, ?_⟩) hHeld ?_ ?_
  rotate_left
  ·rintro w' ⟨s0, s1, s2, s3, s4⟩
   go_simp
   with_reducible rfl
  rotate_left; · simp only [Act.put, List.setIfInBounds_toArray, List.set_cons_zero, List.set_cons_succ, i64_w, i32_w]; rfl
  refine take_ (i := 1) (N := some 33) (v := ?_) (a' := ?_) #[true, true, false, false, false, false, false, false, false, false] rfl rfl (take_ofW HT_.out HW_.out (by kernel_rfl)) (fun _ _ _ h => h) (Or.inl ⟨by rfl, ?_⟩) hHeld ?_ ?_
  rotate_left
  ·rintro w' ⟨s0, s1, s2, s3, s4⟩
   go_simp
   with_reducible rfl
  rotate_left; · simp only [Act.put, List.setIfInBounds_toArray, List.set_cons_zero, List.set_cons_succ, i64_w, i32_w]; rfl
  refine join_ (σ := Value × Nat) 2 #[true, true, true, true, true, true, true, true, false, false] (fun s_ => [(34, .agg #[.int .i64 t279, .int .i64 t280, .int .i64 t281]), (35, .tuple #[.agg #[.int .i64 t282, s_.1], .bool t286]), (9, .pointer (some ⟨s_.2, 0, none⟩)), (31, .tuple #[.agg #[.int .i64 t282, s_.1], .bool t286]), (36, .agg #[.int .i64 t282, s_.1]), (37, .bool t286)]) (fun s_ w' => (w'.cell? ⟨gb278, 0, none⟩ = some (.int .i64 t274) ∧ w'.cell? ⟨gb278, 1, none⟩ = some (.slice Ao36 t275.length co36) ∧ w'.cell? ⟨gb259, 0, none⟩ = some (.int .i64 a1_0) ∧ w'.cell? ⟨gb259, 1, none⟩ = some (.int .i64 a1_1) ∧ w'.cell? ⟨gb259, 2, none⟩ = some (.int .i64 a1_2)) ∧ (Kd.R k82 82 w' w.heap.size (fun k_ => some k_ ≠ (.slice Ao25 t269.length co25 : Value).ownBlock ∧ some k_ ≠ (.slice Ao36 t275.length co36 : Value).ownBlock ∧ some k_ ≠ (s_.1 : Value).ownBlock) v263 t262) ∧ (Kd.R k82 82 w' w.heap.size (fun k_ => some k_ ≠ (v263 : Value).ownBlock ∧ some k_ ≠ (.slice Ao36 t275.length co36 : Value).ownBlock ∧ some k_ ≠ (s_.1 : Value).ownBlock) (.slice Ao25 t269.length co25) t269) ∧ (Kd.R k82 82 w' w.heap.size (fun k_ => some k_ ≠ (v263 : Value).ownBlock ∧ some k_ ≠ (.slice Ao25 t269.length co25 : Value).ownBlock ∧ some k_ ≠ (s_.1 : Value).ownBlock) (.slice Ao36 t275.length co36) t275) ∧ (Kd.R k82 82 w' w.heap.size (fun k_ => some k_ ≠ (v263 : Value).ownBlock ∧ some k_ ≠ (.slice Ao25 t269.length co25 : Value).ownBlock ∧ some k_ ≠ (.slice Ao36 t275.length co36 : Value).ownBlock) s_.1 t283) ∧ (w'.heap[gb258]? = some (.cells #[.int .i64 a0_0, .slice A0_1 l0_1.length c0_1] 37 (0, 0))) ∧ (w'.heap[gb259]? = some (.cells #[.int .i64 a1_0, .int .i64 a1_1, .int .i64 a1_2] 80 (0, 0))) ∧ (w'.heap[gb273]? = some (.cells #[.int .i64 t268, .slice Ao25 t269.length co25] 41 (0, 0))) ∧ (w'.heap[gb278]? = some (.cells #[.int .i64 t274, .slice Ao36 t275.length co36] 41 (0, 0))) ∧ (w'.heap[s_.2]? = some (.cells #[.int .i64 0, .slice none 0 0] 41 (0, 0))) ∧ (w.heap.size ≤ s_.2) ∧ (w.heap.size ≤ s_.2) ∧ (gb258 ≠ s_.2) ∧ (s_.2 ≠ gb258) ∧ (gb259 ≠ s_.2) ∧ (s_.2 ≠ gb259) ∧ (gb273 ≠ s_.2) ∧ (s_.2 ≠ gb273) ∧ (gb278 ≠ s_.2) ∧ (s_.2 ≠ gb278) ∧ (Below w.heap.size w w')) ?_ ?_
  rotate_left
  ·intro hCont
   refine two_ (i := 2) (j := 7) (Ni := some 34) (Nj := some 9) #[true, true, true, false, false, false, false, false, false, false] #[true, true, false, false, false, false, false, true, false, false] rfl rfl rfl rfl (two_of HT_.out (by kernel_rfl)) (by decide) (by decide) (fun K hK => ?_) (fun K hK => ?_)
   ·skip
    refine goes_ Try.func52 (by kernel_rfl) rfl #[.agg #[.int .i64 a1_0, .int .i64 a1_1, .int .i64 a1_2]] (by rfl) rfl rfl (by (try simp only [List.map_toArray, List.map_cons, List.map_nil]); first | done | rfl | (simp only [List.length_drop, List.length_take]; rfl)) ?_
    with_reducible refine (laws_toMember.calls a1_0 a1_1 a1_2 t279 t280 t281 _ A14.out).mono ?_
    rintro e w39 ⟨rfl, hb⟩
    refine ⟨_, rfl, ?_⟩
    have n_ := an (Kd.R_below (by exact Kd.R_nw HO264.out) hb) (an (Kd.R_below (by exact Kd.R_nw HO271.out) hb) (an (Kd.R_below (by exact Kd.R_nw HO277.out) hb) (an (blk_below (blk_nw BK258.out) hb) (an (blk_below (blk_nw BK259.out) hb) (an (blk_below (blk_nw BK273.out) hb) (an (blk_below (blk_nw BK278.out) hb) (an (below_step (by exact bel0) hb) (trivial))))))))
    clear HO264 HO271 HO277 BK258 BK259 BK273 BK278 HB
    obtain ⟨HO264, HO271, HO277, BK258, BK259, BK273, BK278, HB, -⟩ := n_
    (try clear hb); (try clear hb2); (try clear hk); (try clear hi)
    refine hK.out _ _ ⟨(blk_cell BK278.out 0).trans rfl, (blk_cell BK278.out 1).trans rfl, (blk_cell BK259.out 0).trans rfl, (blk_cell BK259.out 1).trans rfl, (blk_cell BK259.out 2).trans rfl⟩ (fun hHeld => ?_)
    clear hK K
    refine norm_ (a' := ?_) ?_ ?_
    rotate_left
    ·show Act.put _ (some 34) _ = _
     simp only [Act.put, List.setIfInBounds_toArray, List.set_cons_zero, List.set_cons_succ, i64_w, i32_w]
     rfl
    refine two_ (i := 3) (j := 7) (Ni := some 35) (Nj := some 9) #[true, true, true, true, false, false, false, false, false, false] #[true, true, true, false, false, false, false, true, false, false] rfl rfl rfl rfl (two_of HT_.out (by kernel_rfl)) (by decide) (by decide) (fun K hK => ?_) (fun K hK => ?_)
    ·skip
     refine goes_ Try.func53 (by kernel_rfl) rfl #[.agg #[.int .i64 t274, .slice Ao36 t275.length co36], .agg #[.int .i64 t279, .int .i64 t280, .int .i64 t281]] (by rfl) rfl rfl (by (try simp only [List.map_toArray, List.map_cons, List.map_nil]); first | done | rfl | (simp only [List.length_drop, List.length_take]; rfl)) ?_
     with_reducible refine (impl_Heard.calls k t274 _ _ t275 t279 t280 t281 t282 t283 t286 _ ?side1 ?side2 A15.out).mono ?_
     (case side1 => repeat (first | exact (Kd.R_reads' HO277.out).2.2 | (with_reducible refine Kd.C_alloc ?_ _) | (with_reducible refine Kd.C_drewN ?_ _) | (with_reducible refine Kd.C_drew ?_)))
     (case side2 => exact (Kd.R_reads' HO277.out).2.1)
     rintro e w40 ⟨v284, rfl, ho0, hb⟩
     refine ⟨_, rfl, ?_⟩
     have n_ := an (Kd.R_elder' (by exact Kd.R_nw HO264.out) (Kd.R_base ho0) hb) (an (Kd.R_elder' (by exact Kd.R_nw HO271.out) (Kd.R_base ho0) hb) (an (Kd.R_elder' (by exact Kd.R_nw HO277.out) (Kd.R_base ho0) hb) (an (Kd.R_lower (Kd.R_new' (Kd.R_new' (Kd.R_new' ho0 (Kd.R_lt (by exact Kd.R_nw HO264.out))) (Kd.R_lt (by exact Kd.R_nw HO271.out))) (Kd.R_lt (by exact Kd.R_nw HO277.out))) (below_size (by exact bel0))) (an (blk_below (blk_nw BK258.out) hb) (an (blk_below (blk_nw BK259.out) hb) (an (blk_below (blk_nw BK273.out) hb) (an (blk_below (blk_nw BK278.out) hb) (an (below_step (by exact bel0) hb) (trivial)))))))))
     clear HO264 HO271 HO277 BK258 BK259 BK273 BK278 HB
     obtain ⟨HO264, HO271, HO277, HO285, BK258, BK259, BK273, BK278, HB, -⟩ := n_
     (try clear hb); (try clear hb2); (try clear hk); (try clear hi); (try clear ho0)
     refine hK.out _ _ ⟨(blk_cell BK278.out 0).trans rfl, (blk_cell BK278.out 1).trans rfl, (blk_cell BK259.out 0).trans rfl, (blk_cell BK259.out 1).trans rfl, (blk_cell BK259.out 2).trans rfl⟩ (fun hHeld => ?_)
     clear hK K
     refine norm_ (a' := ?_) ?_ ?_
     rotate_left
     ·show Act.put _ (some 35) _ = _
      simp only [Act.put, List.setIfInBounds_toArray, List.set_cons_zero, List.set_cons_succ, i64_w, i32_w]
      rfl
     refine pure_ (i := 4) (N := some 31) (v := ?_) (a' := ?_) #[true, true, true, true, true, false, false, false, false, false] rfl rfl (any_of HT_.out (by kernel_rfl)) (fun _ _ _ h => h) (Or.inl ⟨by rfl, ?_⟩) ?_ ?_
     rotate_left; · intro w'; go_simp; with_reducible rfl
     rotate_left; · simp only [Act.put, List.setIfInBounds_toArray, List.set_cons_zero, List.set_cons_succ, i64_w, i32_w]; rfl
     refine pure_ (i := 5) (N := some 36) (v := ?_) (a' := ?_) #[true, true, true, true, true, true, false, false, false, false] rfl rfl (any_of HT_.out (by kernel_rfl)) (fun _ _ _ h => h) (Or.inl ⟨by rfl, ?_⟩) ?_ ?_
     rotate_left; · intro w'; go_simp; with_reducible rfl
     rotate_left; · simp only [Act.put, List.setIfInBounds_toArray, List.set_cons_zero, List.set_cons_succ, i64_w, i32_w]; rfl
     refine pure_ (i := 6) (N := some 37) (v := ?_) (a' := ?_) #[true, true, true, true, true, true, true, false, false, false] rfl rfl (any_of HT_.out (by kernel_rfl)) (fun _ _ _ h => h) (Or.inl ⟨by rfl, ?_⟩) ?_ ?_
     rotate_left; · intro w'; go_simp; with_reducible rfl
     rotate_left; · simp only [Act.put, List.setIfInBounds_toArray, List.set_cons_zero, List.set_cons_succ, i64_w, i32_w]; rfl
     refine one_ (i := 7) (N := some 9) #[true, true, true, true, true, true, true, true, false, false] rfl rfl (one_of HT_.out (by kernel_rfl)) (by decide) (fun K hK => ?_)
     refine box_step ?hg (N := 9) ?hd (cs := #[.int .i64 0, .slice none 0 0]) (t := 41) ?hr ?_; (case hd => rfl); (case hg => rfl); (case hr => first | (go_simp; done) | (go_simp; rfl))
     intro gb287 hg w41 hbox hb
     have n_ := an (Kd.R_below (by exact Kd.R_nw HO264.out) hb) (an (Kd.R_below (by exact Kd.R_nw HO271.out) hb) (an (Kd.R_below (by exact Kd.R_nw HO277.out) hb) (an (Kd.R_below (by exact Kd.R_nw HO285.out) hb) (an (blk_below (blk_nw BK258.out) hb) (an (blk_below (blk_nw BK259.out) hb) (an (blk_below (blk_nw BK273.out) hb) (an (blk_below (blk_nw BK278.out) hb) (an (below_step (by exact bel0) hb) (an (hbox) (an ((by rw [hg]; exact (below_size (by exact bel0)) : w.heap.size ≤ gb287)) (an ((by rw [hg]; exact (below_size (by exact bel0)) : w.heap.size ≤ gb287)) (an ((by rw [hg]; exact Nat.ne_of_lt (blk_lt (blk_nw BK258.out)) : gb258 ≠ gb287)) (an ((by rw [hg]; exact Nat.ne_of_gt (blk_lt (blk_nw BK258.out)) : gb287 ≠ gb258)) (an ((by rw [hg]; exact Nat.ne_of_lt (blk_lt (blk_nw BK259.out)) : gb259 ≠ gb287)) (an ((by rw [hg]; exact Nat.ne_of_gt (blk_lt (blk_nw BK259.out)) : gb287 ≠ gb259)) (an ((by rw [hg]; exact Nat.ne_of_lt (blk_lt (blk_nw BK273.out)) : gb273 ≠ gb287)) (an ((by rw [hg]; exact Nat.ne_of_gt (blk_lt (blk_nw BK273.out)) : gb287 ≠ gb273)) (an ((by rw [hg]; exact Nat.ne_of_lt (blk_lt (blk_nw BK278.out)) : gb278 ≠ gb287)) (an ((by rw [hg]; exact Nat.ne_of_gt (blk_lt (blk_nw BK278.out)) : gb287 ≠ gb278)) (trivial))))))))))))))))))))
     clear HO264 HO271 HO277 HO285 BK258 BK259 BK273 BK278 HB
     obtain ⟨HO264, HO271, HO277, HO285, BK258, BK259, BK273, BK278, HB, BK287, GW287, GE287, NB258_287, NB287_258, NB259_287, NB287_259, NB273_287, NB287_273, NB278_287, NB287_278, -⟩ := n_
     clear hb hbox hg
     refine hK.out _ _ ⟨(blk_cell BK278.out 0).trans rfl, (blk_cell BK278.out 1).trans rfl, (blk_cell BK259.out 0).trans rfl, (blk_cell BK259.out 1).trans rfl, (blk_cell BK259.out 2).trans rfl⟩ (fun hHeld => ?_)
     clear hK K
     refine norm_ (a' := ?_) ?_ ?_
     rotate_left
     ·show Act.put _ (some 9) _ = _
      simp only [Act.put, List.setIfInBounds_toArray, List.set_cons_zero, List.set_cons_succ, i64_w, i32_w]
      rfl
     exact norm_ (by simp only [putAll, Act.put, List.setIfInBounds_toArray, List.set_cons_zero, List.set_cons_succ]) (hCont (v284, gb287) _ ⟨hHeld, (by exact Kd.R_nw (Kd.R_mono HO264.out (fun _ hk => ⟨hk.1.1, ⟨hk.1.2, hk.2⟩⟩))), (by exact Kd.R_nw (Kd.R_mono HO271.out (fun _ hk => ⟨hk.1.1, ⟨hk.1.2, hk.2⟩⟩))), (by exact Kd.R_nw (Kd.R_mono HO277.out (fun _ hk => ⟨hk.1.1, ⟨hk.1.2, hk.2⟩⟩))), (by exact Kd.R_nw (Kd.R_mono HO285.out (fun _ hk => ⟨hk.1.1.2, ⟨hk.1.2, hk.2⟩⟩))), (by exact blk_nw BK258.out), (by exact blk_nw BK259.out), (by exact blk_nw BK273.out), (by exact blk_nw BK278.out), (by exact blk_nw BK287.out), GW287.out, GE287.out, NB258_287.out, NB287_258.out, NB259_287.out, NB287_259.out, NB273_287.out, NB287_273.out, NB278_287.out, NB287_278.out, (by exact bel0)⟩)
    ·skip
     refine box_step ?hg (N := 9) ?hd (cs := #[.int .i64 0, .slice none 0 0]) (t := 41) ?hr ?_; (case hd => rfl); (case hg => rfl); (case hr => first | (go_simp; done) | (go_simp; rfl))
     intro gb287 hg w40 hbox hb
     have n_ := an (Kd.R_below (by exact Kd.R_nw HO264.out) hb) (an (Kd.R_below (by exact Kd.R_nw HO271.out) hb) (an (Kd.R_below (by exact Kd.R_nw HO277.out) hb) (an (blk_below (blk_nw BK258.out) hb) (an (blk_below (blk_nw BK259.out) hb) (an (blk_below (blk_nw BK273.out) hb) (an (blk_below (blk_nw BK278.out) hb) (an (below_step (by exact bel0) hb) (an (hbox) (an ((by rw [hg]; exact (below_size (by exact bel0)) : w.heap.size ≤ gb287)) (an ((by rw [hg]; exact (below_size (by exact bel0)) : w.heap.size ≤ gb287)) (an ((by rw [hg]; exact Nat.ne_of_lt (blk_lt (blk_nw BK258.out)) : gb258 ≠ gb287)) (an ((by rw [hg]; exact Nat.ne_of_gt (blk_lt (blk_nw BK258.out)) : gb287 ≠ gb258)) (an ((by rw [hg]; exact Nat.ne_of_lt (blk_lt (blk_nw BK259.out)) : gb259 ≠ gb287)) (an ((by rw [hg]; exact Nat.ne_of_gt (blk_lt (blk_nw BK259.out)) : gb287 ≠ gb259)) (an ((by rw [hg]; exact Nat.ne_of_lt (blk_lt (blk_nw BK273.out)) : gb273 ≠ gb287)) (an ((by rw [hg]; exact Nat.ne_of_gt (blk_lt (blk_nw BK273.out)) : gb287 ≠ gb273)) (an ((by rw [hg]; exact Nat.ne_of_lt (blk_lt (blk_nw BK278.out)) : gb278 ≠ gb287)) (an ((by rw [hg]; exact Nat.ne_of_gt (blk_lt (blk_nw BK278.out)) : gb287 ≠ gb278)) (trivial)))))))))))))))))))
     clear HO264 HO271 HO277 BK258 BK259 BK273 BK278 HB
     obtain ⟨HO264, HO271, HO277, BK258, BK259, BK273, BK278, HB, BK287, GW287, GE287, NB258_287, NB287_258, NB259_287, NB287_259, NB273_287, NB287_273, NB278_287, NB287_278, -⟩ := n_
     clear hb hbox hg
     refine hK.out _ _ ⟨(blk_cell BK278.out 0).trans rfl, (blk_cell BK278.out 1).trans rfl, (blk_cell BK259.out 0).trans rfl, (blk_cell BK259.out 1).trans rfl, (blk_cell BK259.out 2).trans rfl⟩ (fun hHeld => ?_)
     clear hK K
     refine norm_ (a' := ?_) ?_ ?_
     rotate_left
     ·show Act.put _ (some 9) _ = _
      simp only [Act.put, List.setIfInBounds_toArray, List.set_cons_zero, List.set_cons_succ, i64_w, i32_w]
      rfl
     refine one_ (i := 3) (N := some 35) #[true, true, true, true, false, false, false, true, false, false] rfl rfl (one_of HT_.out (by kernel_rfl)) (by decide) (fun K hK => ?_)
     refine goes_ Try.func53 (by kernel_rfl) rfl #[.agg #[.int .i64 t274, .slice Ao36 t275.length co36], .agg #[.int .i64 t279, .int .i64 t280, .int .i64 t281]] (by rfl) rfl rfl (by (try simp only [List.map_toArray, List.map_cons, List.map_nil]); first | done | rfl | (simp only [List.length_drop, List.length_take]; rfl)) ?_
     with_reducible refine (impl_Heard.calls k t274 _ _ t275 t279 t280 t281 t282 t283 t286 _ ?side1 ?side2 A15.out).mono ?_
     (case side1 => repeat (first | exact (Kd.R_reads' HO277.out).2.2 | (with_reducible refine Kd.C_alloc ?_ _) | (with_reducible refine Kd.C_drewN ?_ _) | (with_reducible refine Kd.C_drew ?_)))
     (case side2 => exact (Kd.R_reads' HO277.out).2.1)
     rintro e w41 ⟨v284, rfl, ho0, hb⟩
     refine ⟨_, rfl, ?_⟩
     have n_ := an (Kd.R_elder' (by exact Kd.R_nw HO264.out) (Kd.R_base ho0) hb) (an (Kd.R_elder' (by exact Kd.R_nw HO271.out) (Kd.R_base ho0) hb) (an (Kd.R_elder' (by exact Kd.R_nw HO277.out) (Kd.R_base ho0) hb) (an (Kd.R_lower (Kd.R_new' (Kd.R_new' (Kd.R_new' ho0 (Kd.R_lt (by exact Kd.R_nw HO264.out))) (Kd.R_lt (by exact Kd.R_nw HO271.out))) (Kd.R_lt (by exact Kd.R_nw HO277.out))) (below_size (by exact bel0))) (an (blk_below (blk_nw BK258.out) hb) (an (blk_below (blk_nw BK259.out) hb) (an (blk_below (blk_nw BK273.out) hb) (an (blk_below (blk_nw BK278.out) hb) (an (blk_below (blk_nw BK287.out) hb) (an (below_step (by exact bel0) hb) (trivial))))))))))
     clear HO264 HO271 HO277 BK258 BK259 BK273 BK278 BK287 HB
     obtain ⟨HO264, HO271, HO277, HO285, BK258, BK259, BK273, BK278, BK287, HB, -⟩ := n_
     (try clear hb); (try clear hb2); (try clear hk); (try clear hi); (try clear ho0)
     refine hK.out _ _ ⟨(blk_cell BK278.out 0).trans rfl, (blk_cell BK278.out 1).trans rfl, (blk_cell BK259.out 0).trans rfl, (blk_cell BK259.out 1).trans rfl, (blk_cell BK259.out 2).trans rfl⟩ (fun hHeld => ?_)
     clear hK K
     refine norm_ (a' := ?_) ?_ ?_
     rotate_left
     ·show Act.put _ (some 35) _ = _
      simp only [Act.put, List.setIfInBounds_toArray, List.set_cons_zero, List.set_cons_succ, i64_w, i32_w]
      rfl
     refine pure_ (i := 4) (N := some 31) (v := ?_) (a' := ?_) #[true, true, true, true, true, false, false, true, false, false] rfl rfl (any_of HT_.out (by kernel_rfl)) (fun _ _ _ h => h) (Or.inl ⟨by rfl, ?_⟩) ?_ ?_
     rotate_left; · intro w'; go_simp; with_reducible rfl
     rotate_left; · simp only [Act.put, List.setIfInBounds_toArray, List.set_cons_zero, List.set_cons_succ, i64_w, i32_w]; rfl
     refine pure_ (i := 5) (N := some 36) (v := ?_) (a' := ?_) #[true, true, true, true, true, true, false, true, false, false] rfl rfl (any_of HT_.out (by kernel_rfl)) (fun _ _ _ h => h) (Or.inl ⟨by rfl, ?_⟩) ?_ ?_
     rotate_left; · intro w'; go_simp; with_reducible rfl
     rotate_left; · simp only [Act.put, List.setIfInBounds_toArray, List.set_cons_zero, List.set_cons_succ, i64_w, i32_w]; rfl
     refine pure_ (i := 6) (N := some 37) (v := ?_) (a' := ?_) #[true, true, true, true, true, true, true, true, false, false] rfl rfl (any_of HT_.out (by kernel_rfl)) (fun _ _ _ h => h) (Or.inl ⟨by rfl, ?_⟩) ?_ ?_
     rotate_left; · intro w'; go_simp; with_reducible rfl
     rotate_left; · simp only [Act.put, List.setIfInBounds_toArray, List.set_cons_zero, List.set_cons_succ, i64_w, i32_w]; rfl
     exact norm_ (by simp only [putAll, Act.put, List.setIfInBounds_toArray, List.set_cons_zero, List.set_cons_succ]) (hCont (v284, gb287) _ ⟨hHeld, (by exact Kd.R_nw (Kd.R_mono HO264.out (fun _ hk => ⟨hk.1.1, ⟨hk.1.2, hk.2⟩⟩))), (by exact Kd.R_nw (Kd.R_mono HO271.out (fun _ hk => ⟨hk.1.1, ⟨hk.1.2, hk.2⟩⟩))), (by exact Kd.R_nw (Kd.R_mono HO277.out (fun _ hk => ⟨hk.1.1, ⟨hk.1.2, hk.2⟩⟩))), (by exact Kd.R_nw (Kd.R_mono HO285.out (fun _ hk => ⟨hk.1.1.2, ⟨hk.1.2, hk.2⟩⟩))), (by exact blk_nw BK258.out), (by exact blk_nw BK259.out), (by exact blk_nw BK273.out), (by exact blk_nw BK278.out), (by exact blk_nw BK287.out), GW287.out, GE287.out, NB258_287.out, NB287_258.out, NB259_287.out, NB287_259.out, NB273_287.out, NB287_273.out, NB278_287.out, NB287_278.out, (by exact bel0)⟩)
   ·skip
    refine box_step ?hg (N := 9) ?hd (cs := #[.int .i64 0, .slice none 0 0]) (t := 41) ?hr ?_; (case hd => rfl); (case hg => rfl); (case hr => first | (go_simp; done) | (go_simp; rfl))
    intro gb287 hg w39 hbox hb
    have n_ := an (Kd.R_below (by exact Kd.R_nw HO264.out) hb) (an (Kd.R_below (by exact Kd.R_nw HO271.out) hb) (an (Kd.R_below (by exact Kd.R_nw HO277.out) hb) (an (blk_below (blk_nw BK258.out) hb) (an (blk_below (blk_nw BK259.out) hb) (an (blk_below (blk_nw BK273.out) hb) (an (blk_below (blk_nw BK278.out) hb) (an (below_step (by exact bel0) hb) (an (hbox) (an ((by rw [hg]; exact (below_size (by exact bel0)) : w.heap.size ≤ gb287)) (an ((by rw [hg]; exact (below_size (by exact bel0)) : w.heap.size ≤ gb287)) (an ((by rw [hg]; exact Nat.ne_of_lt (blk_lt (blk_nw BK258.out)) : gb258 ≠ gb287)) (an ((by rw [hg]; exact Nat.ne_of_gt (blk_lt (blk_nw BK258.out)) : gb287 ≠ gb258)) (an ((by rw [hg]; exact Nat.ne_of_lt (blk_lt (blk_nw BK259.out)) : gb259 ≠ gb287)) (an ((by rw [hg]; exact Nat.ne_of_gt (blk_lt (blk_nw BK259.out)) : gb287 ≠ gb259)) (an ((by rw [hg]; exact Nat.ne_of_lt (blk_lt (blk_nw BK273.out)) : gb273 ≠ gb287)) (an ((by rw [hg]; exact Nat.ne_of_gt (blk_lt (blk_nw BK273.out)) : gb287 ≠ gb273)) (an ((by rw [hg]; exact Nat.ne_of_lt (blk_lt (blk_nw BK278.out)) : gb278 ≠ gb287)) (an ((by rw [hg]; exact Nat.ne_of_gt (blk_lt (blk_nw BK278.out)) : gb287 ≠ gb278)) (trivial)))))))))))))))))))
    clear HO264 HO271 HO277 BK258 BK259 BK273 BK278 HB
    obtain ⟨HO264, HO271, HO277, BK258, BK259, BK273, BK278, HB, BK287, GW287, GE287, NB258_287, NB287_258, NB259_287, NB287_259, NB273_287, NB287_273, NB278_287, NB287_278, -⟩ := n_
    clear hb hbox hg
    refine hK.out _ _ ⟨(blk_cell BK278.out 0).trans rfl, (blk_cell BK278.out 1).trans rfl, (blk_cell BK259.out 0).trans rfl, (blk_cell BK259.out 1).trans rfl, (blk_cell BK259.out 2).trans rfl⟩ (fun hHeld => ?_)
    clear hK K
    refine norm_ (a' := ?_) ?_ ?_
    rotate_left
    ·show Act.put _ (some 9) _ = _
     simp only [Act.put, List.setIfInBounds_toArray, List.set_cons_zero, List.set_cons_succ, i64_w, i32_w]
     rfl
    refine one_ (i := 2) (N := some 34) #[true, true, true, false, false, false, false, true, false, false] rfl rfl (one_of HT_.out (by kernel_rfl)) (by decide) (fun K hK => ?_)
    refine goes_ Try.func52 (by kernel_rfl) rfl #[.agg #[.int .i64 a1_0, .int .i64 a1_1, .int .i64 a1_2]] (by rfl) rfl rfl (by (try simp only [List.map_toArray, List.map_cons, List.map_nil]); first | done | rfl | (simp only [List.length_drop, List.length_take]; rfl)) ?_
    with_reducible refine (laws_toMember.calls a1_0 a1_1 a1_2 t279 t280 t281 _ A14.out).mono ?_
    rintro e w40 ⟨rfl, hb⟩
    refine ⟨_, rfl, ?_⟩
    have n_ := an (Kd.R_below (by exact Kd.R_nw HO264.out) hb) (an (Kd.R_below (by exact Kd.R_nw HO271.out) hb) (an (Kd.R_below (by exact Kd.R_nw HO277.out) hb) (an (blk_below (blk_nw BK258.out) hb) (an (blk_below (blk_nw BK259.out) hb) (an (blk_below (blk_nw BK273.out) hb) (an (blk_below (blk_nw BK278.out) hb) (an (blk_below (blk_nw BK287.out) hb) (an (below_step (by exact bel0) hb) (trivial)))))))))
    clear HO264 HO271 HO277 BK258 BK259 BK273 BK278 BK287 HB
    obtain ⟨HO264, HO271, HO277, BK258, BK259, BK273, BK278, BK287, HB, -⟩ := n_
    (try clear hb); (try clear hb2); (try clear hk); (try clear hi)
    refine hK.out _ _ ⟨(blk_cell BK278.out 0).trans rfl, (blk_cell BK278.out 1).trans rfl, (blk_cell BK259.out 0).trans rfl, (blk_cell BK259.out 1).trans rfl, (blk_cell BK259.out 2).trans rfl⟩ (fun hHeld => ?_)
    clear hK K
    refine norm_ (a' := ?_) ?_ ?_
    rotate_left
    ·show Act.put _ (some 34) _ = _
     simp only [Act.put, List.setIfInBounds_toArray, List.set_cons_zero, List.set_cons_succ, i64_w, i32_w]
     rfl
    refine one_ (i := 3) (N := some 35) #[true, true, true, true, false, false, false, true, false, false] rfl rfl (one_of HT_.out (by kernel_rfl)) (by decide) (fun K hK => ?_)
    refine goes_ Try.func53 (by kernel_rfl) rfl #[.agg #[.int .i64 t274, .slice Ao36 t275.length co36], .agg #[.int .i64 t279, .int .i64 t280, .int .i64 t281]] (by rfl) rfl rfl (by (try simp only [List.map_toArray, List.map_cons, List.map_nil]); first | done | rfl | (simp only [List.length_drop, List.length_take]; rfl)) ?_
    with_reducible refine (impl_Heard.calls k t274 _ _ t275 t279 t280 t281 t282 t283 t286 _ ?side1 ?side2 A15.out).mono ?_
    (case side1 => repeat (first | exact (Kd.R_reads' HO277.out).2.2 | (with_reducible refine Kd.C_alloc ?_ _) | (with_reducible refine Kd.C_drewN ?_ _) | (with_reducible refine Kd.C_drew ?_)))
    (case side2 => exact (Kd.R_reads' HO277.out).2.1)
    rintro e w41 ⟨v284, rfl, ho0, hb⟩
    refine ⟨_, rfl, ?_⟩
    have n_ := an (Kd.R_elder' (by exact Kd.R_nw HO264.out) (Kd.R_base ho0) hb) (an (Kd.R_elder' (by exact Kd.R_nw HO271.out) (Kd.R_base ho0) hb) (an (Kd.R_elder' (by exact Kd.R_nw HO277.out) (Kd.R_base ho0) hb) (an (Kd.R_lower (Kd.R_new' (Kd.R_new' (Kd.R_new' ho0 (Kd.R_lt (by exact Kd.R_nw HO264.out))) (Kd.R_lt (by exact Kd.R_nw HO271.out))) (Kd.R_lt (by exact Kd.R_nw HO277.out))) (below_size (by exact bel0))) (an (blk_below (blk_nw BK258.out) hb) (an (blk_below (blk_nw BK259.out) hb) (an (blk_below (blk_nw BK273.out) hb) (an (blk_below (blk_nw BK278.out) hb) (an (blk_below (blk_nw BK287.out) hb) (an (below_step (by exact bel0) hb) (trivial))))))))))
    clear HO264 HO271 HO277 BK258 BK259 BK273 BK278 BK287 HB
    obtain ⟨HO264, HO271, HO277, HO285, BK258, BK259, BK273, BK278, BK287, HB, -⟩ := n_
    (try clear hb); (try clear hb2); (try clear hk); (try clear hi); (try clear ho0)
    refine hK.out _ _ ⟨(blk_cell BK278.out 0).trans rfl, (blk_cell BK278.out 1).trans rfl, (blk_cell BK259.out 0).trans rfl, (blk_cell BK259.out 1).trans rfl, (blk_cell BK259.out 2).trans rfl⟩ (fun hHeld => ?_)
    clear hK K
    refine norm_ (a' := ?_) ?_ ?_
    rotate_left
    ·show Act.put _ (some 35) _ = _
     simp only [Act.put, List.setIfInBounds_toArray, List.set_cons_zero, List.set_cons_succ, i64_w, i32_w]
     rfl
    refine pure_ (i := 4) (N := some 31) (v := ?_) (a' := ?_) #[true, true, true, true, true, false, false, true, false, false] rfl rfl (any_of HT_.out (by kernel_rfl)) (fun _ _ _ h => h) (Or.inl ⟨by rfl, ?_⟩) ?_ ?_
    rotate_left; · intro w'; go_simp; with_reducible rfl
    rotate_left; · simp only [Act.put, List.setIfInBounds_toArray, List.set_cons_zero, List.set_cons_succ, i64_w, i32_w]; rfl
    refine pure_ (i := 5) (N := some 36) (v := ?_) (a' := ?_) #[true, true, true, true, true, true, false, true, false, false] rfl rfl (any_of HT_.out (by kernel_rfl)) (fun _ _ _ h => h) (Or.inl ⟨by rfl, ?_⟩) ?_ ?_
    rotate_left; · intro w'; go_simp; with_reducible rfl
    rotate_left; · simp only [Act.put, List.setIfInBounds_toArray, List.set_cons_zero, List.set_cons_succ, i64_w, i32_w]; rfl
    refine pure_ (i := 6) (N := some 37) (v := ?_) (a' := ?_) #[true, true, true, true, true, true, true, true, false, false] rfl rfl (any_of HT_.out (by kernel_rfl)) (fun _ _ _ h => h) (Or.inl ⟨by rfl, ?_⟩) ?_ ?_
    rotate_left; · intro w'; go_simp; with_reducible rfl
    rotate_left; · simp only [Act.put, List.setIfInBounds_toArray, List.set_cons_zero, List.set_cons_succ, i64_w, i32_w]; rfl
    exact norm_ (by simp only [putAll, Act.put, List.setIfInBounds_toArray, List.set_cons_zero, List.set_cons_succ]) (hCont (v284, gb287) _ ⟨hHeld, (by exact Kd.R_nw (Kd.R_mono HO264.out (fun _ hk => ⟨hk.1.1, ⟨hk.1.2, hk.2⟩⟩))), (by exact Kd.R_nw (Kd.R_mono HO271.out (fun _ hk => ⟨hk.1.1, ⟨hk.1.2, hk.2⟩⟩))), (by exact Kd.R_nw (Kd.R_mono HO277.out (fun _ hk => ⟨hk.1.1, ⟨hk.1.2, hk.2⟩⟩))), (by exact Kd.R_nw (Kd.R_mono HO285.out (fun _ hk => ⟨hk.1.1.2, ⟨hk.1.2, hk.2⟩⟩))), (by exact blk_nw BK258.out), (by exact blk_nw BK259.out), (by exact blk_nw BK273.out), (by exact blk_nw BK278.out), (by exact blk_nw BK287.out), GW287.out, GE287.out, NB258_287.out, NB287_258.out, NB259_287.out, NB287_259.out, NB273_287.out, NB287_273.out, NB278_287.out, NB287_278.out, (by exact bel0)⟩)
  rintro ⟨v284, gb287⟩ w42 ⟨hS_, h0_, h1_, h2_, h3_, h4_, h5_, h6_, h7_, h8_, h9_, h10_, h11_, h12_, h13_, h14_, h15_, h16_, h17_, h18_, h19_⟩
  have n0_ : Aside0 (Kd.R k82 82 w42 w.heap.size (fun k_ => some k_ ≠ (.slice Ao25 t269.length co25 : Value).ownBlock ∧ some k_ ≠ (.slice Ao36 t275.length co36 : Value).ownBlock ∧ some k_ ≠ (v284 : Value).ownBlock) v263 t262) := ⟨h0_⟩
  have n1_ : Aside0 (Kd.R k82 82 w42 w.heap.size (fun k_ => some k_ ≠ (v263 : Value).ownBlock ∧ some k_ ≠ (.slice Ao36 t275.length co36 : Value).ownBlock ∧ some k_ ≠ (v284 : Value).ownBlock) (.slice Ao25 t269.length co25) t269) := ⟨h1_⟩
  have n2_ : Aside0 (Kd.R k82 82 w42 w.heap.size (fun k_ => some k_ ≠ (v263 : Value).ownBlock ∧ some k_ ≠ (.slice Ao25 t269.length co25 : Value).ownBlock ∧ some k_ ≠ (v284 : Value).ownBlock) (.slice Ao36 t275.length co36) t275) := ⟨h2_⟩
  have n3_ : Aside0 (Kd.R k82 82 w42 w.heap.size (fun k_ => some k_ ≠ (v263 : Value).ownBlock ∧ some k_ ≠ (.slice Ao25 t269.length co25 : Value).ownBlock ∧ some k_ ≠ (.slice Ao36 t275.length co36 : Value).ownBlock) v284 t283) := ⟨h3_⟩
  have n4_ : Aside0 (w42.heap[gb258]? = some (.cells #[.int .i64 a0_0, .slice A0_1 l0_1.length c0_1] 37 (0, 0))) := ⟨h4_⟩
  have n5_ : Aside0 (w42.heap[gb259]? = some (.cells #[.int .i64 a1_0, .int .i64 a1_1, .int .i64 a1_2] 80 (0, 0))) := ⟨h5_⟩
  have n6_ : Aside0 (w42.heap[gb273]? = some (.cells #[.int .i64 t268, .slice Ao25 t269.length co25] 41 (0, 0))) := ⟨h6_⟩
  have n7_ : Aside0 (w42.heap[gb278]? = some (.cells #[.int .i64 t274, .slice Ao36 t275.length co36] 41 (0, 0))) := ⟨h7_⟩
  have n8_ : Aside0 (w42.heap[gb287]? = some (.cells #[.int .i64 0, .slice none 0 0] 41 (0, 0))) := ⟨h8_⟩
  have n9_ : Aside0 (w.heap.size ≤ gb287) := ⟨h9_⟩
  have n10_ : Aside0 (w.heap.size ≤ gb287) := ⟨h10_⟩
  have n11_ : Aside0 (gb258 ≠ gb287) := ⟨h11_⟩
  have n12_ : Aside0 (gb287 ≠ gb258) := ⟨h12_⟩
  have n13_ : Aside0 (gb259 ≠ gb287) := ⟨h13_⟩
  have n14_ : Aside0 (gb287 ≠ gb259) := ⟨h14_⟩
  have n15_ : Aside0 (gb273 ≠ gb287) := ⟨h15_⟩
  have n16_ : Aside0 (gb287 ≠ gb273) := ⟨h16_⟩
  have n17_ : Aside0 (gb278 ≠ gb287) := ⟨h17_⟩
  have n18_ : Aside0 (gb287 ≠ gb278) := ⟨h18_⟩
  have n19_ : Aside0 (Below w.heap.size w w42) := ⟨h19_⟩
  clear HO264; clear HO271; clear HO277; clear BK258; clear BK259; clear BK273; clear BK278; clear HB; clear h0_ h1_ h2_ h3_ h4_ h5_ h6_ h7_ h8_ h9_ h10_ h11_ h12_ h13_ h14_ h15_ h16_ h17_ h18_ h19_
  have HO264 := n0_
  have HO271 := n1_
  have HO277 := n2_
  have HO285 := n3_
  have BK258 := n4_
  have BK259 := n5_
  have BK273 := n6_
  have BK278 := n7_
  have BK287 := n8_
  have GW287 := n9_
  have GE287 := n10_
  have NB258_287 := n11_
  have NB287_258 := n12_
  have NB259_287 := n13_
  have NB287_259 := n14_
  have NB273_287 := n15_
  have NB287_273 := n16_
  have NB278_287 := n17_
  have NB287_278 := n18_
  have HB := n19_
  clear n0_ n1_ n2_ n3_ n4_ n5_ n6_ n7_ n8_ n9_ n10_ n11_ n12_ n13_ n14_ n15_ n16_ n17_ n18_ n19_
  have hHeld : w42.cell? ⟨gb278, 0, none⟩ = some (.int .i64 t274) ∧ w42.cell? ⟨gb278, 1, none⟩ = some (.slice Ao36 t275.length co36) ∧ w42.cell? ⟨gb259, 0, none⟩ = some (.int .i64 a1_0) ∧ w42.cell? ⟨gb259, 1, none⟩ = some (.int .i64 a1_1) ∧ w42.cell? ⟨gb259, 2, none⟩ = some (.int .i64 a1_2) := hS_
  obtain ⟨Ao44, co44, eo44⟩ := Kd.R_slice HO285.out
  (first | subst eo44 | (injection eo44 with f1_ f2_ f3_; have f4_ := f1_.symm; have f5_ := f3_.symm; clear f1_ f2_ f3_; subst f4_; subst f5_))
  refine norm_ (a' := ?_) ?_ ?_
  rotate_left; · simp only [putAll, Act.put, List.setIfInBounds_toArray, List.set_cons_zero, List.set_cons_succ]; rfl
  refine one_ (i := 8) (N := none) #[true, true, true, true, true, true, true, true, true, false] rfl rfl (one_of HT_.out (by kernel_rfl)) (by decide) (fun K hK => ?_)
  have hs43 : w42.cell? ⟨gb287, 0, none⟩ = some (.int .i64 0) := (blk_cell BK287.out 0).trans rfl
  have hfs43 := blk_frozen BK287.out 0
  have hns43_0 := NB258_287.out; have hns43_1 := NB259_287.out; have hns43_2 := NB273_287.out; have hns43_3 := NB278_287.out; have hms43_0 := NB287_258.out; have hms43_1 := NB287_259.out; have hms43_2 := NB287_273.out; have hms43_3 := NB287_278.out
  have hs45 : w42.cell? ⟨gb287, 1, none⟩ = some (.slice none 0 0) := (blk_cell BK287.out 1).trans rfl
  have hfs45 := blk_frozen BK287.out 1
  have hns45_0 := NB258_287.out; have hns45_1 := NB259_287.out; have hns45_2 := NB273_287.out; have hns45_3 := NB278_287.out; have hms45_0 := NB287_258.out; have hms45_1 := NB287_259.out; have hms45_2 := NB287_273.out; have hms45_3 := NB287_278.out
  refine skip_ (w1 := ?_) (by rfl) rfl ?_ ?_
  rotate_left
  ·go_simp
   rfl
  refine hK.out _ _ ⟨((cell_far (p := ⟨gb287, _, none⟩) NB278_287.out _).trans (((cell_far (p := ⟨gb287, _, none⟩) NB278_287.out _).trans (hHeld.1)))), ((cell_far (p := ⟨gb287, _, none⟩) NB278_287.out _).trans (((cell_far (p := ⟨gb287, _, none⟩) NB278_287.out _).trans (hHeld.2.1)))), ((cell_far (p := ⟨gb287, _, none⟩) NB259_287.out _).trans (((cell_far (p := ⟨gb287, _, none⟩) NB259_287.out _).trans (hHeld.2.2.1)))), ((cell_far (p := ⟨gb287, _, none⟩) NB259_287.out _).trans (((cell_far (p := ⟨gb287, _, none⟩) NB259_287.out _).trans (hHeld.2.2.2.1)))), ((cell_far (p := ⟨gb287, _, none⟩) NB259_287.out _).trans (((cell_far (p := ⟨gb287, _, none⟩) NB259_287.out _).trans (hHeld.2.2.2.2))))⟩ (fun hHeld => ?_)
  clear hK K
  refine pure_ (i := 9) (N := some 10) (v := ?_) (a' := ?_) #[true, true, true, true, true, true, true, true, true, true] rfl rfl (any_of HT_.out (by kernel_rfl)) (fun _ _ _ h => h) (Or.inl ⟨by rfl, ?_⟩) ?_ ?_
  rotate_left; · intro w'; go_simp; with_reducible rfl
  rotate_left; · simp only [Act.put, List.setIfInBounds_toArray, List.set_cons_zero, List.set_cons_succ, i64_w, i32_w]; rfl
  refine done_ (done_of HT_.out (by kernel_rfl)) ?_
  go_upto_region 8 with (fail)
  go_cut [46] (fun v46 wc => ∃ (kq : Nat) (x46_15 : Bool), v46 = .bool x46_15 ∧ Aside0 (laws_FnExactHeard.j0 kq t272 t286 x46_15 a0_0 l0_1 a1_0 a1_1 a1_2 t268 t269 t274 t275 t282 t283 = some r) ∧ Aside0 (kq ≤ k) ∧ Aside0 (Kd.R k82 82 wc w.heap.size (fun k_ => some k_ ≠ ((.slice Ao36 t275.length co36) : Value).ownBlock ∧ some k_ ≠ ((.slice Ao44 t283.length co44) : Value).ownBlock) (.slice Ao25 t269.length co25) t269) ∧ Aside0 (Kd.R k82 82 wc w.heap.size (fun k_ => some k_ ≠ ((.slice Ao25 t269.length co25) : Value).ownBlock ∧ some k_ ≠ ((.slice Ao44 t283.length co44) : Value).ownBlock) (.slice Ao36 t275.length co36) t275) ∧ Aside0 (Kd.R k82 82 wc w.heap.size (fun k_ => some k_ ≠ ((.slice Ao25 t269.length co25) : Value).ownBlock ∧ some k_ ≠ ((.slice Ao36 t275.length co36) : Value).ownBlock) (.slice Ao44 t283.length co44) t283) ∧ Aside0 (wc.heap[gb258]? = some (.cells #[.int .i64 a0_0, (.slice A0_1 l0_1.length c0_1)] 37 (0, 0))) ∧ Aside0 (wc.heap[gb259]? = some (.cells #[.int .i64 a1_0, .int .i64 a1_1, .int .i64 a1_2] 80 (0, 0))) ∧ Aside0 (wc.heap[gb273]? = some (.cells #[.int .i64 t268, (.slice Ao25 t269.length co25)] 41 (0, 0))) ∧ Aside0 (wc.heap[gb278]? = some (.cells #[.int .i64 t274, (.slice Ao36 t275.length co36)] 41 (0, 0))) ∧ Aside0 (wc.heap[gb287]? = some (.cells #[.int .i64 t282, (.slice Ao44 t283.length co44)] 41 (0, 0))) ∧ Aside0 (Below w.heap.size w wc))
  case first =>
   have H := HC16.out; clear HC16; replace H := Option.bind_eq_some_iff.mp H; obtain ⟨t288, A460, H⟩ := H; have A46 := Aside0.mk A460; clear A460; have hnb47 := NB287_258.out; have hnc47 := NB258_287.out; have hnb48 := NB287_259.out; have hnc48 := NB259_287.out; have hnb49 := NB287_273.out; have hnc49 := NB273_287.out; have hnb50 := NB287_278.out; have hnc50 := NB278_287.out; obtain ⟨hcz51_0, hcz51_1⟩ := blkz2 BK287.out; have hfz51_0 := blkf BK287.out; have hnb52 := NB273_258.out; have hnc52 := NB258_273.out; have hnb53 := NB273_259.out; have hnc53 := NB259_273.out; have hnb54 := NB273_278.out; have hnc54 := NB278_273.out; obtain ⟨hcz55_0, hcz55_1⟩ := blkz2 BK273.out; have hfz55_0 := blkf BK273.out
   replace H := Aside0.mk H
   go_wp2_with (first | ((with_reducible refine gate_callee (f := 27) rfl ?_); refine goesL_ (some 40) rfl rfl Try.func27 (by kernel_rfl) rfl #[.agg #[.int .i64 t282, .slice Ao44 t283.length co44], .agg #[.int .i64 t268, .slice Ao25 t269.length co25]] rfl (by (try simp only [List.map_toArray, List.map_cons, List.map_nil]); first | done | rfl | (simp only [List.length_drop, List.length_take]; rfl)) ?_; (with_reducible refine (laws_eqTable.calls k t282 _ _ t283 t268 _ _ t269 t288 _ ?side1 ?side2 ?side3 ?side4 A46.out).mono ?_); (case side1 => refine (Kd.R_reads' (e := 82) (base := w.heap.size) (ok := fun k_ => (some k_ ≠ (v263 : Value).ownBlock ∧ (some k_ ≠ (.slice Ao25 t269.length co25 : Value).ownBlock ∧ some k_ ≠ (.slice Ao36 t275.length co36 : Value).ownBlock))) (n := t283.length) (c := co44) ?_).2.2; exact (by exact (Kd.R_farN HO285.out BK287.out))); (case side2 => exact (Kd.R_reads' HO285.out).2.1); (case side3 => refine (Kd.R_reads' (e := 82) (base := w.heap.size) (ok := fun k_ => (some k_ ≠ (v263 : Value).ownBlock ∧ (some k_ ≠ (.slice Ao36 t275.length co36 : Value).ownBlock ∧ some k_ ≠ (.slice Ao44 t283.length co44 : Value).ownBlock))) (n := t269.length) (c := co25) ?_).2.2; exact (by exact (Kd.R_farN HO271.out BK287.out))); (case side4 => exact (Kd.R_reads' HO271.out).2.1); rintro e w56 ⟨rfl, hb⟩; refine ⟨_, rfl, ?_⟩; have n_ := an (Kd.R_below (by exact (Kd.R_farN HO264.out BK287.out)) hb) (an (Kd.R_below (by exact (Kd.R_farN HO271.out BK287.out)) hb) (an (Kd.R_below (by exact (Kd.R_farN HO277.out BK287.out)) hb) (an (Kd.R_below (by exact (Kd.R_farN HO285.out BK287.out)) hb) (an (blk_below (blk_kb BK258.out NB258_287.out) hb) (an (blk_below (blk_kb BK259.out NB259_287.out) hb) (an (blk_below (blk_kb BK273.out NB273_287.out) hb) (an (blk_below (blk_kb BK278.out NB278_287.out) hb) (an (blk_below (g := gb287) (o := .cells #[.int .i64 t282, .slice Ao44 t283.length co44] 41 (0, 0)) (by (with_reducible repeat (first | refine blk_drewN ?_ _ | refine blk_drew ?_ | refine blk_alloc ?_ _)); exact blk_fill2 BK287.out) hb) (an (below_step (by exact bel0) hb) (trivial)))))))))); clear HO264 HO271 HO277 HO285 BK258 BK259 BK273 BK278 BK287 HB; obtain ⟨HO264, HO271, HO277, HO285, BK258, BK259, BK273, BK278, BK287, HB, -⟩ := n_; (try clear hb); (try clear hb2); (try clear hk); (try clear hi); refine Stop.out ?_))
   refine Stop.mk ?_
   replace H := H.out
   by_cases c57 : t288 = true
   ·subst c57; rw [if_pos rfl] at H
    have H' := Aside0.mk H
    clear H
    go_wp2
    go_meet
    case rel => exact ⟨_, ((t286 != t272)), (by first | rfl | (simp; done) | (simp [*]; done)), H', ⟨by first | omega | exact Nat.le_refl _⟩, ⟨by exact Kd.R_nw (Kd.R_mono HO271.out (fun _ hk => ⟨hk.2.1, hk.2.2⟩))⟩, ⟨by exact Kd.R_nw (Kd.R_mono HO277.out (fun _ hk => ⟨hk.2.1, hk.2.2⟩))⟩, ⟨by exact Kd.R_nw (Kd.R_mono HO285.out (fun _ hk => ⟨hk.2.1, hk.2.2⟩))⟩, ⟨by exact blk_nw BK258.out⟩, ⟨by exact blk_nw BK259.out⟩, ⟨by exact blk_nw BK273.out⟩, ⟨by exact blk_nw BK278.out⟩, ⟨by exact blk_nw BK287.out⟩, ⟨by exact bel0⟩⟩
   ·replace c57 := Bool.eq_false_iff.mpr c57
    subst c57
    rw [if_neg (show ¬ (false = true) by decide)] at H
    have H' := Aside0.mk H
    clear H
    go_wp2
    go_meet
    case rel => exact ⟨_, (true), (by first | rfl | (simp; done) | (simp [*]; done)), H', ⟨by first | omega | exact Nat.le_refl _⟩, ⟨by exact Kd.R_nw (Kd.R_mono HO271.out (fun _ hk => ⟨hk.2.1, hk.2.2⟩))⟩, ⟨by exact Kd.R_nw (Kd.R_mono HO277.out (fun _ hk => ⟨hk.2.1, hk.2.2⟩))⟩, ⟨by exact Kd.R_nw (Kd.R_mono HO285.out (fun _ hk => ⟨hk.2.1, hk.2.2⟩))⟩, ⟨by exact blk_nw BK258.out⟩, ⟨by exact blk_nw BK259.out⟩, ⟨by exact blk_nw BK273.out⟩, ⟨by exact blk_nw BK278.out⟩, ⟨by exact blk_nw BK287.out⟩, ⟨by exact bel0⟩⟩
  case rest =>
   clear HC16; try clear c2; try clear p2; try clear c3; try clear c4; try clear c5; try clear c25; try clear c27; try clear c28; try clear c32; try clear c33; try clear c34; try clear c47; try clear c48; try clear c49; try clear c50; try clear c51; try clear c52; try clear c53; try clear c54; try clear c57; try clear hcz29_0; try clear hcz29_1; try clear hcz35_0; try clear hcz35_1; try clear hcz51_0; try clear hcz51_1; try clear hcz55_0; try clear hcz55_1; try clear hfz29_0; try clear hfz29_1; try clear hfz35_0; try clear hfz35_1; try clear hfz51_0; try clear hfz51_1; try clear hfz55_0; try clear hfz55_1
   obtain ⟨kq, x46_15, rfl, HA, HJ15, HO_274001, HO_279001, HO_288001, BK258, BK259, BK273, BK278, BK287, HB⟩ := hcut
   cases kq with
   | zero => exact absurd HA.out (by simp [laws_FnExactHeard.j0])
   | succ kj15 =>
    have H := HA.out; clear HA
    simp only [laws_FnExactHeard.j0] at H
    by_cases c58 : x46_15 = true
    ·subst c58; rw [if_pos rfl] at H
     obtain rfl := Option.some.inj H
     go_wp2
     go_ret
     exact ⟨by first | rfl | (simp [errW_none, errW_some] <;> rfl) | (simp [*, errW_none, errW_some] <;> rfl), by exact bel0⟩
    ·replace c58 := Bool.eq_false_iff.mpr c58
     subst c58
     rw [if_neg (show ¬ (false = true) by decide)] at H
     replace H := Option.bind_eq_some_iff.mp H
     obtain ⟨⟨t289, t290⟩, A590, H⟩ := H
     replace H : ((laws_eqTable.f kj15 t274 t275 t289 t290).bind fun t293 => (if t293 = true then ((laws_markTable.f kj15 t274 t275 1).bind fun bt294 => (if bt294.1 < 0 then (laws_FnExactHeard.j1 kj15 t272 true a0_0 l0_1 a1_0 a1_1 a1_2 t268 t269 t282 t283) else ((laws_eqTable.f kj15 t282 t283 t268 t269).bind fun t296 => (if t296 = true then (laws_FnExactHeard.j1 kj15 t272 (t286 != t272) a0_0 l0_1 a1_0 a1_1 a1_2 t268 t269 t282 t283) else (laws_FnExactHeard.j1 kj15 t272 true a0_0 l0_1 a1_0 a1_1 a1_2 t268 t269 t282 t283))))) else (some false))) = some r := H
     have A59 := Aside0.mk A590; clear A590; replace H := Option.bind_eq_some_iff.mp H; obtain ⟨t293, A600, H⟩ := H; have A60 := Aside0.mk A600; clear A600
     replace H := Aside0.mk H
     try go_wp2
     have n_ := an (Kd.R_drew HO_274001.out) (an (Kd.R_drew HO_279001.out) (an (Kd.R_drew HO_288001.out) (an (blk_drew BK258.out) (an (blk_drew BK259.out) (an (blk_drew BK273.out) (an (blk_drew BK278.out) (an (blk_drew BK287.out) (an (below_drew1 HB.out) (trivial)))))))))
     clear HO_274001 HO_279001 HO_288001 BK258 BK259 BK273 BK278 BK287 HB
     obtain ⟨HO_274001, HO_279001, HO_288001, BK258, BK259, BK273, BK278, BK287, HB, -⟩ := n_
     refine start_ (n := 5) (S := fun w' => w'.cell? ⟨gb278, 0, none⟩ = some (.int .i64 t274) ∧ w'.cell? ⟨gb278, 1, none⟩ = some (.slice Ao36 t275.length co36) ∧ w'.cell? ⟨gb258, 0, none⟩ = some (.int .i64 a0_0) ∧ w'.cell? ⟨gb258, 1, none⟩ = some (.slice A0_1 l0_1.length c0_1)) (ds := []) #[false, false, false, false, false] (by kernel_rfl) rfl rfl ⟨(blk_cell BK278.out 0).trans rfl, (blk_cell BK278.out 1).trans rfl, (blk_cell BK258.out 0).trans rfl, (blk_cell BK258.out 1).trans rfl⟩ (fun hHeld => ?_)
     generalize wc.drew = w61 at HO_274001 HO_279001 HO_288001 BK258 BK259 BK273 BK278 BK287 HB hHeld ⊢
     refine take_ (i := 0) (N := some 47) (v := ?_) (a' := ?_) #[true, false, false, false, false] rfl rfl (by kernel_rfl) (fun _ _ _ h => h) (Or.inl ⟨by rfl, ?_⟩) hHeld ?_ ?_
     rotate_left
     ·rintro w' ⟨s0, s1, s2, s3⟩
      go_simp
      with_reducible rfl
     rotate_left; · simp only [Act.put, List.setIfInBounds_toArray, List.set_cons_zero, List.set_cons_succ, i64_w, i32_w]; rfl
     refine take_ (i := 1) (N := some 48) (v := ?_) (a' := ?_) #[true, true, false, false, false] rfl rfl (by kernel_rfl) (fun _ _ _ h => h) (Or.inl ⟨by rfl, ?_⟩) hHeld ?_ ?_
     rotate_left
     ·rintro w' ⟨s0, s1, s2, s3⟩
      go_simp
      with_reducible rfl
     rotate_left; · simp only [Act.put, List.setIfInBounds_toArray, List.set_cons_zero, List.set_cons_succ, i64_w, i32_w]; rfl
     refine one_ (i := 2) (N := some 49) #[true, true, true, false, false] rfl rfl (by kernel_rfl) (by decide) (fun K hK => ?_)
     refine goes_ Try.func25 (by kernel_rfl) rfl #[.agg #[.int .i64 a0_0, .slice A0_1 l0_1.length c0_1]] (by rfl) rfl rfl (by (try simp only [List.map_toArray, List.map_cons, List.map_nil]); first | done | rfl | (simp only [List.length_drop, List.length_take]; rfl)) ?_
     with_reducible refine (laws_toTable.calls kj15 a0_0 _ _ l0_1 t289 t290 _ ?side1 ?side2 A59.out).mono ?_
     (case side1 => repeat (first | exact (Kd.C_below HR0_1.out HB.out) | (with_reducible refine Kd.C_alloc ?_ _) | (with_reducible refine Kd.C_drewN ?_ _) | (with_reducible refine Kd.C_drew ?_)))
     (case side2 => exact HC0_1.out)
     rintro e w62 ⟨v291, rfl, ho0, hb⟩
     refine ⟨_, rfl, ?_⟩
     have n_ := an (Kd.R_elder' (by exact Kd.R_nw HO_274001.out) (Kd.R_base ho0) hb) (an (Kd.R_elder' (by exact Kd.R_nw HO_279001.out) (Kd.R_base ho0) hb) (an (Kd.R_elder' (by exact Kd.R_nw HO_288001.out) (Kd.R_base ho0) hb) (an (Kd.R_lower (Kd.R_new' (Kd.R_new' (Kd.R_new' ho0 (Kd.R_lt (by exact Kd.R_nw HO_274001.out))) (Kd.R_lt (by exact Kd.R_nw HO_279001.out))) (Kd.R_lt (by exact Kd.R_nw HO_288001.out))) (below_size (by exact bel0))) (an (blk_below (blk_nw BK258.out) hb) (an (blk_below (blk_nw BK259.out) hb) (an (blk_below (blk_nw BK273.out) hb) (an (blk_below (blk_nw BK278.out) hb) (an (blk_below (blk_nw BK287.out) hb) (an (below_step (by exact bel0) hb) (trivial))))))))))
     clear HO_274001 HO_279001 HO_288001 BK258 BK259 BK273 BK278 BK287 HB
     obtain ⟨HO_274001, HO_279001, HO_288001, HO292, BK258, BK259, BK273, BK278, BK287, HB, -⟩ := n_
     (try clear hb); (try clear hb2); (try clear hk); (try clear hi); (try clear ho0)
     obtain ⟨Ao63, co63, eo63⟩ := Kd.R_slice HO292.out
     (first | subst eo63 | (injection eo63 with f1_ f2_ f3_; have f4_ := f1_.symm; have f5_ := f3_.symm; clear f1_ f2_ f3_; subst f4_; subst f5_))
     refine hK.out _ _ ⟨(blk_cell BK278.out 0).trans rfl, (blk_cell BK278.out 1).trans rfl, (blk_cell BK258.out 0).trans rfl, (blk_cell BK258.out 1).trans rfl⟩ (fun hHeld => ?_)
     clear hK K
     refine norm_ (a' := ?_) ?_ ?_
     rotate_left
     ·show Act.put _ (some 49) _ = _
      simp only [Act.put, List.setIfInBounds_toArray, List.set_cons_zero, List.set_cons_succ, i64_w, i32_w]
      rfl
     refine one_ (i := 3) (N := some 50) #[true, true, true, true, false] rfl rfl (by kernel_rfl) (by decide) (fun K hK => ?_)
     refine goes_ Try.func27 (by kernel_rfl) rfl #[.agg #[.int .i64 t274, .slice Ao36 t275.length co36], .agg #[.int .i64 t289, .slice Ao63 t290.length co63]] (by rfl) rfl rfl (by (try simp only [List.map_toArray, List.map_cons, List.map_nil]); first | done | rfl | (simp only [List.length_drop, List.length_take]; rfl)) ?_
     with_reducible refine (laws_eqTable.calls kj15 t274 _ _ t275 t289 _ _ t290 t293 _ ?side1 ?side2 ?side3 ?side4 A60.out).mono ?_
     (case side1 => repeat (first | exact (Kd.R_reads' HO_279001.out).2.2 | (with_reducible refine Kd.C_alloc ?_ _) | (with_reducible refine Kd.C_drewN ?_ _) | (with_reducible refine Kd.C_drew ?_)))
     (case side2 => exact (Kd.R_reads' HO_279001.out).2.1)
     (case side3 => repeat (first | exact (Kd.R_reads' HO292.out).2.2 | (with_reducible refine Kd.C_alloc ?_ _) | (with_reducible refine Kd.C_drewN ?_ _) | (with_reducible refine Kd.C_drew ?_)))
     (case side4 => exact (Kd.R_reads' HO292.out).2.1)
     rintro e w64 ⟨rfl, hb⟩
     refine ⟨_, rfl, ?_⟩
     have n_ := an (Kd.R_below (by exact Kd.R_nw HO_274001.out) hb) (an (Kd.R_below (by exact Kd.R_nw HO_279001.out) hb) (an (Kd.R_below (by exact Kd.R_nw HO_288001.out) hb) (an (Kd.R_below (by exact Kd.R_nw HO292.out) hb) (an (blk_below (blk_nw BK258.out) hb) (an (blk_below (blk_nw BK259.out) hb) (an (blk_below (blk_nw BK273.out) hb) (an (blk_below (blk_nw BK278.out) hb) (an (blk_below (blk_nw BK287.out) hb) (an (below_step (by exact bel0) hb) (trivial))))))))))
     clear HO_274001 HO_279001 HO_288001 HO292 BK258 BK259 BK273 BK278 BK287 HB
     obtain ⟨HO_274001, HO_279001, HO_288001, HO292, BK258, BK259, BK273, BK278, BK287, HB, -⟩ := n_
     (try clear hb); (try clear hb2); (try clear hk); (try clear hi)
     refine hK.out _ _ ⟨(blk_cell BK278.out 0).trans rfl, (blk_cell BK278.out 1).trans rfl, (blk_cell BK258.out 0).trans rfl, (blk_cell BK258.out 1).trans rfl⟩ (fun hHeld => ?_)
     clear hK K
     refine norm_ (a' := ?_) ?_ ?_
     rotate_left
     ·show Act.put _ (some 50) _ = _
      simp only [Act.put, List.setIfInBounds_toArray, List.set_cons_zero, List.set_cons_succ, i64_w, i32_w]
      rfl
     refine pure_ (i := 4) (N := some 51) (v := ?_) (a' := ?_) #[true, true, true, true, true] rfl rfl (by kernel_rfl) (fun _ _ _ h => h) (Or.inl ⟨by rfl, ?_⟩) ?_ ?_
     rotate_left; · intro w'; go_simp; with_reducible rfl
     rotate_left; · simp only [Act.put, List.setIfInBounds_toArray, List.set_cons_zero, List.set_cons_succ, i64_w, i32_w]; rfl
     refine done_ (by kernel_rfl) ?_
     replace H := H.out
     by_cases c65 : t293 = true
     ·subst c65; rw [if_pos rfl] at H; replace H := Option.bind_eq_some_iff.mp H
      obtain ⟨⟨t294, t295⟩, A660, H⟩ := H
      replace H : (if t294 < 0 then (laws_FnExactHeard.j1 kj15 t272 true a0_0 l0_1 a1_0 a1_1 a1_2 t268 t269 t282 t283) else ((laws_eqTable.f kj15 t282 t283 t268 t269).bind fun t296 => (if t296 = true then (laws_FnExactHeard.j1 kj15 t272 (t286 != t272) a0_0 l0_1 a1_0 a1_1 a1_2 t268 t269 t282 t283) else (laws_FnExactHeard.j1 kj15 t272 true a0_0 l0_1 a1_0 a1_1 a1_2 t268 t269 t282 t283)))) = some r := H
      have A66 := Aside0.mk A660; clear A660; have HC67 := Aside0.mk H; clear H; have hnb68 := NB278_258.out; have hnc68 := NB258_278.out; have hnb69 := NB278_259.out; have hnc69 := NB259_278.out; have hnb70 := NB278_273.out; have hnc70 := NB273_278.out; have hnb71 := NB278_287.out; have hnc71 := NB287_278.out; obtain ⟨hcz72_0, hcz72_1⟩ := blkz2 BK278.out; have hfz72_0 := blkf BK278.out
      go_upto_region 14 with (first | ((with_reducible refine gate_callee (f := 28) rfl ?_); refine goesL_ (some 54) rfl rfl Try.func28 (by kernel_rfl) rfl #[.agg #[.int .i64 t274, .slice Ao36 t275.length co36], .int .i64 1] rfl (by (try simp only [List.map_toArray, List.map_cons, List.map_nil]); first | done | rfl | (simp only [List.length_drop, List.length_take]; rfl)) ?_; (with_reducible refine (laws_markTable.calls kj15 t274 (fun k_ => some k_ = (.slice Ao36 t275.length co36 : Value).ownBlock) (.slice Ao36 t275.length co36) t275 1 t294 t295 w _ ?side1 ?side2 A66.out).mono ?_); (case side1 => exact bel0); (case side2 => exact Kd.R_tight rfl HO_279001.out); rintro e w73 ⟨rfl, hy0, hb, hkp⟩; refine ⟨_, rfl, ?_⟩; have n_ := an (Kd.R_mono (ok' := fun k_ => some k_ ≠ (.slice Ao36 t275.length co36 : Value).ownBlock ∧ some k_ ≠ (.slice Ao44 t283.length co44 : Value).ownBlock ∧ some k_ ≠ (.slice Ao63 t290.length co63 : Value).ownBlock) (Kd.R_keptB (HO_274001.out) hkp (fun k_ hk_ hs_ => (hk_.1.1) hs_)) (fun k_ hk_ => ⟨hk_.1.1.1, hk_.1.1.2, hk_.1.2⟩)) (an (Kd.R_reok rfl hy0 (fun k_ e_ => HO_279001.out.1 k_ e_)) (an (Kd.R_mono (ok' := fun k_ => some k_ ≠ (.slice Ao25 t269.length co25 : Value).ownBlock ∧ some k_ ≠ (.slice Ao36 t275.length co36 : Value).ownBlock ∧ some k_ ≠ (.slice Ao63 t290.length co63 : Value).ownBlock) (Kd.R_keptB (HO_288001.out) hkp (fun k_ hk_ hs_ => (hk_.1.2) hs_)) (fun k_ hk_ => ⟨hk_.1.1.1, hk_.1.1.2, hk_.1.2⟩)) (an (blk_kept (by exact blk_nw BK258.out) hkp (fun hs_ => (fun e_ => (Kd.R_ne HO_279001.out BK258.out (by decide)) e_) hs_)) (an (blk_kept (by exact blk_nw BK259.out) hkp (fun hs_ => (fun e_ => (Kd.R_ne HO_279001.out BK259.out (by decide)) e_) hs_)) (an (blk_kept (by exact blk_nw BK273.out) hkp (fun hs_ => (fun e_ => (Kd.R_ne HO_279001.out BK273.out (by decide)) e_) hs_)) (an (blk_kept (by exact blk_nw BK278.out) hkp (fun hs_ => (fun e_ => (Kd.R_ne HO_279001.out BK278.out (by decide)) e_) hs_)) (an (blk_kept (by exact blk_nw BK287.out) hkp (fun hs_ => (fun e_ => (Kd.R_ne HO_279001.out BK287.out (by decide)) e_) hs_)) (an (Kd.R_mono (ok' := fun k_ => some k_ ≠ (.slice Ao25 t269.length co25 : Value).ownBlock ∧ some k_ ≠ (.slice Ao36 t275.length co36 : Value).ownBlock ∧ some k_ ≠ (.slice Ao44 t283.length co44 : Value).ownBlock) (Kd.R_keptB (HO292.out) hkp (fun k_ hk_ hs_ => (hk_.1.2) hs_)) (fun k_ hk_ => ⟨hk_.1.1.1.2, hk_.1.1.2, hk_.1.2⟩)) (an (hb) (trivial)))))))))); clear HO_274001 HO_279001 HO_288001 BK258 BK259 BK273 BK278 BK287 HO292 HB; obtain ⟨HO_274001, HO_279001, HO_288001, BK258, BK259, BK273, BK278, BK287, HO292, HB, -⟩ := n_; (try clear hb); (try clear hkp); (try clear hy0)))
      (try simp only [Act.put, List.setIfInBounds_toArray, List.set_cons_zero, List.set_cons_succ])
      go_cut [67] (fun v67 wc => ∃ (kq : Nat) (x67_66 : Bool), v67 = .bool x67_66 ∧ Aside0 (laws_FnExactHeard.j1 kq t272 x67_66 a0_0 l0_1 a1_0 a1_1 a1_2 t268 t269 t282 t283 = some r) ∧ Aside0 (kq ≤ kj15) ∧ Aside0 (Kd.R k82 82 wc w.heap.size (fun k_ => some k_ ≠ ((.slice Ao36 t275.length co36) : Value).ownBlock ∧ some k_ ≠ ((.slice Ao44 t283.length co44) : Value).ownBlock) (.slice Ao25 t269.length co25) t269) ∧ Aside0 (Kd.R k82 82 wc w.heap.size (fun k_ => some k_ ≠ ((.slice Ao25 t269.length co25) : Value).ownBlock ∧ some k_ ≠ ((.slice Ao44 t283.length co44) : Value).ownBlock) (.slice Ao36 t275.length co36) t295) ∧ Aside0 (Kd.R k82 82 wc w.heap.size (fun k_ => some k_ ≠ ((.slice Ao25 t269.length co25) : Value).ownBlock ∧ some k_ ≠ ((.slice Ao36 t275.length co36) : Value).ownBlock) (.slice Ao44 t283.length co44) t283) ∧ Aside0 (wc.heap[gb258]? = some (.cells #[.int .i64 a0_0, (.slice A0_1 l0_1.length c0_1)] 37 (0, 0))) ∧ Aside0 (wc.heap[gb259]? = some (.cells #[.int .i64 a1_0, .int .i64 a1_1, .int .i64 a1_2] 80 (0, 0))) ∧ Aside0 (wc.heap[gb273]? = some (.cells #[.int .i64 t268, (.slice Ao25 t269.length co25)] 41 (0, 0))) ∧ Aside0 (wc.heap[gb278]? = some (.cells #[.int .i64 t274, (.slice Ao36 t275.length co36)] 41 (0, 0))) ∧ Aside0 (wc.heap[gb287]? = some (.cells #[.int .i64 t282, (.slice Ao44 t283.length co44)] 41 (0, 0))) ∧ Aside0 (Below w.heap.size w wc))
      case first =>
       have H := HC67.out; clear HC67
       by_cases c74 : t294 < 0
       ·rw [if_pos c74] at H; have c74b0 : decide (t294 < 0) = true := decide_eq_true c74; clear c74; (try simp only [c74b0])
        (first | rw [c74b0] | (simp only [i64_w, i32_w]; rw [c74b0]) | skip)
        have H' := Aside0.mk H
        clear H
        go_wp2
        go_meet
        case rel => exact ⟨_, (true), (by first | rfl | (simp; done) | (simp [*]; done)), H', ⟨by have := HJ15.out; first | omega | exact Nat.le_refl _⟩, ⟨by exact Kd.R_nw (Kd.R_mono HO_274001.out (fun _ hk => ⟨hk.1, hk.2.1⟩))⟩, ⟨by exact Kd.R_nw (Kd.R_mono HO_279001.out (fun _ hk => ⟨hk.1.1, hk.1.2⟩))⟩, ⟨by exact Kd.R_nw (Kd.R_mono HO_288001.out (fun _ hk => ⟨hk.1, hk.2.1⟩))⟩, ⟨by exact blk_nw BK258.out⟩, ⟨by exact blk_nw BK259.out⟩, ⟨by exact blk_nw BK273.out⟩, ⟨by exact blk_nw BK278.out⟩, ⟨by exact blk_nw BK287.out⟩, ⟨by exact bel0⟩⟩
       ·rw [if_neg c74] at H; have c74b0 : decide (t294 < 0) = false := decide_eq_false c74; clear c74; (try simp only [c74b0])
        (first | rw [c74b0] | (simp only [i64_w, i32_w]; rw [c74b0]) | skip)
        replace H := Option.bind_eq_some_iff.mp H; obtain ⟨t296, A750, H⟩ := H; have A75 := Aside0.mk A750; clear A750; have hnb76 := NB287_258.out; have hnc76 := NB258_287.out; have hnb77 := NB287_259.out; have hnc77 := NB259_287.out; have hnb78 := NB287_273.out; have hnc78 := NB273_287.out; have hnb79 := NB287_278.out; have hnc79 := NB278_287.out; obtain ⟨hcz80_0, hcz80_1⟩ := blkz2 BK287.out; have hfz80_0 := blkf BK287.out; have hnb81 := NB273_258.out; have hnc81 := NB258_273.out; have hnb82 := NB273_259.out; have hnc82 := NB259_273.out; have hnb83 := NB273_278.out; have hnc83 := NB278_273.out; obtain ⟨hcz84_0, hcz84_1⟩ := blkz2 BK273.out; have hfz84_0 := blkf BK273.out
        replace H := Aside0.mk H
        go_wp2_with (first | (go_at_call 27; (with_reducible refine (laws_eqTable.calls kj15 t282 _ _ t283 t268 _ _ t269 t296 _ ?side1 ?side2 ?side3 ?side4 A75.out).mono ?_); (case side1 => repeat (first | exact (Kd.R_reads' HO_288001.out).2.2 | (with_reducible refine Kd.C_alloc ?_ _) | (with_reducible refine Kd.C_drewN ?_ _) | (with_reducible refine Kd.C_drew ?_))); (case side2 => exact (Kd.R_reads' HO_288001.out).2.1); (case side3 => repeat (first | exact (Kd.R_reads' HO_274001.out).2.2 | (with_reducible refine Kd.C_alloc ?_ _) | (with_reducible refine Kd.C_drewN ?_ _) | (with_reducible refine Kd.C_drew ?_))); (case side4 => exact (Kd.R_reads' HO_274001.out).2.1); rintro e w85 ⟨rfl, hb⟩; have n_ := an (Kd.R_below (by exact Kd.R_nw HO_274001.out) hb) (an (Kd.R_below (by exact Kd.R_nw HO_279001.out) hb) (an (Kd.R_below (by exact Kd.R_nw HO_288001.out) hb) (an (Kd.R_below (by exact Kd.R_nw HO292.out) hb) (an (blk_below (blk_nw BK258.out) hb) (an (blk_below (blk_nw BK259.out) hb) (an (blk_below (blk_nw BK273.out) hb) (an (blk_below (blk_nw BK278.out) hb) (an (blk_below (blk_nw BK287.out) hb) (an (below_step (by exact bel0) hb) (trivial)))))))))); clear HO_274001 HO_279001 HO_288001 HO292 BK258 BK259 BK273 BK278 BK287 HB; obtain ⟨HO_274001, HO_279001, HO_288001, HO292, BK258, BK259, BK273, BK278, BK287, HB, -⟩ := n_; (try clear hb); (try clear hb2); (try clear hk); (try clear hi); refine Stop.out ?_))
        refine Stop.mk ?_
        replace H := H.out
        by_cases c86 : t296 = true
        ·subst c86; rw [if_pos rfl] at H
         have H' := Aside0.mk H
         clear H
         go_wp2
         go_meet
         case rel => exact ⟨_, ((t286 != t272)), (by first | rfl | (simp; done) | (simp [*]; done)), H', ⟨by have := HJ15.out; first | omega | exact Nat.le_refl _⟩, ⟨by exact Kd.R_nw (Kd.R_mono HO_274001.out (fun _ hk => ⟨hk.1, hk.2.1⟩))⟩, ⟨by exact Kd.R_nw (Kd.R_mono HO_279001.out (fun _ hk => ⟨hk.1.1, hk.1.2⟩))⟩, ⟨by exact Kd.R_nw (Kd.R_mono HO_288001.out (fun _ hk => ⟨hk.1, hk.2.1⟩))⟩, ⟨by exact blk_nw BK258.out⟩, ⟨by exact blk_nw BK259.out⟩, ⟨by exact blk_nw BK273.out⟩, ⟨by exact blk_nw BK278.out⟩, ⟨by exact blk_nw BK287.out⟩, ⟨by exact bel0⟩⟩
        ·replace c86 := Bool.eq_false_iff.mpr c86
         subst c86
         rw [if_neg (show ¬ (false = true) by decide)] at H
         have H' := Aside0.mk H
         clear H
         go_wp2
         go_meet
         case rel => exact ⟨_, (true), (by first | rfl | (simp; done) | (simp [*]; done)), H', ⟨by have := HJ15.out; first | omega | exact Nat.le_refl _⟩, ⟨by exact Kd.R_nw (Kd.R_mono HO_274001.out (fun _ hk => ⟨hk.1, hk.2.1⟩))⟩, ⟨by exact Kd.R_nw (Kd.R_mono HO_279001.out (fun _ hk => ⟨hk.1.1, hk.1.2⟩))⟩, ⟨by exact Kd.R_nw (Kd.R_mono HO_288001.out (fun _ hk => ⟨hk.1, hk.2.1⟩))⟩, ⟨by exact blk_nw BK258.out⟩, ⟨by exact blk_nw BK259.out⟩, ⟨by exact blk_nw BK273.out⟩, ⟨by exact blk_nw BK278.out⟩, ⟨by exact blk_nw BK287.out⟩, ⟨by exact bel0⟩⟩
      case rest =>
       clear HC67; try clear c2; try clear p2; try clear c3; try clear c4; try clear c5; try clear c6; try clear c7; try clear c8; try clear c25; try clear c27; try clear c28; try clear c32; try clear c33; try clear c34; try clear c47; try clear c48; try clear c49; try clear c50; try clear c51; try clear c52; try clear c53; try clear c54; try clear c57; try clear c58; try clear c65; try clear c68; try clear c69; try clear c70; try clear c71; try clear c74; try clear c74b0; try clear c76; try clear c77; try clear c78; try clear c79; try clear c81; try clear c82; try clear c83; try clear c86; try clear hcz29_0; try clear hcz29_1; try clear hcz35_0; try clear hcz35_1; try clear hcz51_0; try clear hcz51_1; try clear hcz55_0; try clear hcz55_1; try clear hcz72_0; try clear hcz72_1; try clear hcz80_0; try clear hcz80_1; try clear hcz84_0; try clear hcz84_1; try clear hfz29_0; try clear hfz29_1; try clear hfz35_0; try clear hfz35_1; try clear hfz51_0; try clear hfz51_1; try clear hfz55_0; try clear hfz55_1; try clear hfz72_0; try clear hfz72_1; try clear hfz80_0; try clear hfz80_1; try clear hfz84_0; try clear hfz84_1; try clear p2
       obtain ⟨kq, x67_66, rfl, HA, HJ66, HO_274001, HO_279001, HO_288001, BK258, BK259, BK273, BK278, BK287, HB⟩ := hcut
       have hl279001_66 := (Kd.R_reads' HO_279001.out).1
       rw [hl279001_66] at HO_279001
       (try simp only [hl279001_66])
       (try simp only [hl279001_66] at BK258)
       (try simp only [hl279001_66] at BK259)
       (try simp only [hl279001_66] at BK273)
       (try simp only [hl279001_66] at BK278)
       (try simp only [hl279001_66] at BK287)
       (try simp only [hl279001_66] at HO_274001)
       (try simp only [hl279001_66] at HO_288001)
       cases kq with
       | zero => exact absurd HA.out (by simp [laws_FnExactHeard.j1])
       | succ kj66 =>
        have H := HA.out; clear HA
        simp only [laws_FnExactHeard.j1] at H
        by_cases c87 : x67_66 = true
        ·subst c87; rw [if_pos rfl] at H
         obtain rfl := Option.some.inj H
         go_wp2
         go_ret
         exact ⟨by first | rfl | (simp [errW_none, errW_some] <;> rfl) | (simp [*, errW_none, errW_some] <;> rfl), by exact bel0⟩
        ·replace c87 := Bool.eq_false_iff.mpr c87
         subst c87
         rw [if_neg (show ¬ (false = true) by decide)] at H
         replace H := Option.bind_eq_some_iff.mp H
         obtain ⟨⟨t297, t298⟩, A880, H⟩ := H
         replace H : ((laws_heldTable.f kj66 t282 t298 1).bind fun t299 => (if t299 < 0 then (some false) else (if t299 = t297 then ((laws_toTable.f kj66 a0_0 l0_1).bind fun bt300 => ((laws_toMember.f a1_0 a1_1 a1_2).bind fun bt304 => ((impl_Heard.f kj66 bt300.1 bt300.2 bt304.1 bt304.2.1 bt304.2.2).bind fun bt307 => ((laws_eqTable.f kj66 bt307.1 bt307.2.1 t268 t269).bind fun t313 => (if t313 = true then (laws_FnExactHeard.j2 kj66 t297 (bt307.2.2 != t272) t282 t298) else (laws_FnExactHeard.j2 kj66 t297 true t282 t298)))))) else (some false)))) = some r := H
         have A88 := Aside0.mk A880; clear A880; replace H := Option.bind_eq_some_iff.mp H; obtain ⟨t299, A890, H⟩ := H; have A89 := Aside0.mk A890; clear A890; have hnb90 := NB287_258.out; have hnc90 := NB258_287.out; have hnb91 := NB287_259.out; have hnc91 := NB259_287.out; have hnb92 := NB287_273.out; have hnc92 := NB273_287.out; have hnb93 := NB287_278.out; have hnc93 := NB278_287.out; obtain ⟨hcz94_0, hcz94_1⟩ := blkz2 BK287.out; have hfz94_0 := blkf BK287.out
         replace H := Aside0.mk H
         go_wp2_with (first | ((with_reducible refine gate_callee (f := 28) rfl ?_); refine goesL_ (some 70) rfl rfl Try.func28 (by kernel_rfl) rfl #[.agg #[.int .i64 t282, .slice Ao44 t283.length co44], .int .i64 1] rfl (by (try simp only [List.map_toArray, List.map_cons, List.map_nil]); first | done | rfl | (simp only [List.length_drop, List.length_take]; rfl)) ?_; (with_reducible refine (laws_markTable.calls kj66 t282 (fun k_ => some k_ = (.slice Ao44 t283.length co44 : Value).ownBlock) (.slice Ao44 t283.length co44) t283 1 t297 t298 w _ ?side1 ?side2 A88.out).mono ?_); (case side1 => exact bel0); (case side2 => exact Kd.R_tight rfl HO_288001.out); rintro e w95 ⟨rfl, hy0, hb, hkp⟩; refine ⟨_, rfl, ?_⟩; have n_ := an (Kd.R_mono (ok' := fun k_ => some k_ ≠ (.slice Ao36 t295.length co36 : Value).ownBlock ∧ some k_ ≠ (.slice Ao44 t283.length co44 : Value).ownBlock) (Kd.R_keptB (HO_274001.out) hkp (fun k_ hk_ hs_ => (hk_.2) hs_)) (fun k_ hk_ => ⟨hk_.1.1, hk_.1.2⟩)) (an (Kd.R_mono (ok' := fun k_ => some k_ ≠ (.slice Ao25 t269.length co25 : Value).ownBlock ∧ some k_ ≠ (.slice Ao44 t283.length co44 : Value).ownBlock) (Kd.R_keptB (HO_279001.out) hkp (fun k_ hk_ hs_ => (hk_.2) hs_)) (fun k_ hk_ => ⟨hk_.1.1, hk_.1.2⟩)) (an (Kd.R_reok rfl hy0 (fun k_ e_ => HO_288001.out.1 k_ e_)) (an (blk_kept (by exact blk_nw BK258.out) hkp (fun hs_ => (fun e_ => (Kd.R_ne HO_288001.out BK258.out (by decide)) e_) hs_)) (an (blk_kept (by exact blk_nw BK259.out) hkp (fun hs_ => (fun e_ => (Kd.R_ne HO_288001.out BK259.out (by decide)) e_) hs_)) (an (blk_kept (by exact blk_nw BK273.out) hkp (fun hs_ => (fun e_ => (Kd.R_ne HO_288001.out BK273.out (by decide)) e_) hs_)) (an (blk_kept (by exact blk_nw BK278.out) hkp (fun hs_ => (fun e_ => (Kd.R_ne HO_288001.out BK278.out (by decide)) e_) hs_)) (an (blk_kept (by exact blk_nw BK287.out) hkp (fun hs_ => (fun e_ => (Kd.R_ne HO_288001.out BK287.out (by decide)) e_) hs_)) (an (hb) (trivial))))))))); clear HO_274001 HO_279001 HO_288001 BK258 BK259 BK273 BK278 BK287 HB; obtain ⟨HO_274001, HO_279001, HO_288001, BK258, BK259, BK273, BK278, BK287, HB, -⟩ := n_; (try clear hb); (try clear hkp); (try clear hy0); obtain ⟨hcz96_0, hcz96_1⟩ := blkz2 BK287.out; have hfz96_0 := blkf BK287.out) | ((with_reducible refine gate_callee (f := 29) rfl ?_); refine goesL_ (some 73) rfl rfl Try.func29 (by kernel_rfl) rfl #[.agg #[.int .i64 t282, .slice Ao44 t298.length co44], .int .i64 1] rfl (by (try simp only [List.map_toArray, List.map_cons, List.map_nil]); first | done | (rw [show t298.length = t283.length from (Kd.R_reads' HO_288001.out).1.symm] <;> rfl) | rfl | (simp only [List.length_drop, List.length_take]; rfl)) ?_; (with_reducible refine (laws_heldTable.calls kj66 t282 _ _ t298 1 t299 _ ?side1 ?side2 A89.out).mono ?_); (case side1 => repeat (first | exact (Kd.R_reads' HO_288001.out).2.2 | (with_reducible refine Kd.C_alloc ?_ _) | (with_reducible refine Kd.C_drewN ?_ _) | (with_reducible refine Kd.C_drew ?_))); (case side2 => rw [show t298.length = t283.length from (Kd.R_reads' HO_288001.out).1.symm]; exact (Kd.R_reads' HO_288001.out).2.1); rintro e w97 ⟨rfl, hb⟩; refine ⟨_, rfl, ?_⟩; have n_ := an (Kd.R_below (by exact Kd.R_nw HO_274001.out) hb) (an (Kd.R_below (by exact Kd.R_nw HO_279001.out) hb) (an (Kd.R_below (by exact Kd.R_nw HO_288001.out) hb) (an (blk_below (blk_nw BK258.out) hb) (an (blk_below (blk_nw BK259.out) hb) (an (blk_below (blk_nw BK273.out) hb) (an (blk_below (blk_nw BK278.out) hb) (an (blk_below (blk_nw BK287.out) hb) (an (below_step (by exact bel0) hb) (trivial))))))))); clear HO_274001 HO_279001 HO_288001 BK258 BK259 BK273 BK278 BK287 HB; obtain ⟨HO_274001, HO_279001, HO_288001, BK258, BK259, BK273, BK278, BK287, HB, -⟩ := n_; (try clear hb); (try clear hb2); (try clear hk); (try clear hi); refine Stop.out ?_))
         refine Stop.mk ?_
         replace H := H.out
         by_cases c98 : t299 < 0
         ·rw [if_pos c98] at H; have c98b0 : decide (t299 < 0) = true := decide_eq_true c98; clear c98; (try simp only [c98b0])
          obtain rfl := Option.some.inj H
          go_wp2
          go_ret
          exact ⟨by first | rfl | (simp [errW_none, errW_some] <;> rfl) | (simp [*, errW_none, errW_some] <;> rfl), by exact bel0⟩
         ·rw [if_neg c98] at H; have c98b0 : decide (t299 < 0) = false := decide_eq_false c98; clear c98; (try simp only [c98b0])
          by_cases c99 : t299 = t297
          ·rw [if_pos c99] at H; have c99b0 : (t299 == t297) = true := beq_iff_eq.mpr c99; have c99b1 : (t299 != t297) = false := bne_eq_false_iff_eq.mpr c99; clear c99; replace H := Option.bind_eq_some_iff.mp H
           obtain ⟨⟨t300, t301⟩, A1000, H⟩ := H
           replace H : ((laws_toMember.f a1_0 a1_1 a1_2).bind fun bt304 => ((impl_Heard.f kj66 t300 t301 bt304.1 bt304.2.1 bt304.2.2).bind fun bt307 => ((laws_eqTable.f kj66 bt307.1 bt307.2.1 t268 t269).bind fun t313 => (if t313 = true then (laws_FnExactHeard.j2 kj66 t297 (bt307.2.2 != t272) t282 t298) else (laws_FnExactHeard.j2 kj66 t297 true t282 t298))))) = some r := H
           have A100 := Aside0.mk A1000; clear A1000; replace H := Option.bind_eq_some_iff.mp H
           obtain ⟨⟨t304, t305, t306⟩, A1010, H⟩ := H
           replace H : ((impl_Heard.f kj66 t300 t301 t304 t305 t306).bind fun bt307 => ((laws_eqTable.f kj66 bt307.1 bt307.2.1 t268 t269).bind fun t313 => (if t313 = true then (laws_FnExactHeard.j2 kj66 t297 (bt307.2.2 != t272) t282 t298) else (laws_FnExactHeard.j2 kj66 t297 true t282 t298)))) = some r := H
           have A101 := Aside0.mk A1010; clear A1010; replace H := Option.bind_eq_some_iff.mp H
           obtain ⟨⟨t307, t308, t311⟩, A1020, H⟩ := H
           replace H : ((laws_eqTable.f kj66 t307 t308 t268 t269).bind fun t313 => (if t313 = true then (laws_FnExactHeard.j2 kj66 t297 (t311 != t272) t282 t298) else (laws_FnExactHeard.j2 kj66 t297 true t282 t298))) = some r := H
           have A102 := Aside0.mk A1020; clear A1020; have HC103 := Aside0.mk H; clear H
           try go_wp2
           have n_ := an (Kd.R_drew HO_274001.out) (an (Kd.R_drew HO_279001.out) (an (Kd.R_drew HO_288001.out) (an (blk_drew BK258.out) (an (blk_drew BK259.out) (an (blk_drew BK273.out) (an (blk_drew BK278.out) (an (blk_drew BK287.out) (an (below_drew1 HB.out) (trivial)))))))))
           clear HO_274001 HO_279001 HO_288001 BK258 BK259 BK273 BK278 BK287 HB
           obtain ⟨HO_274001, HO_279001, HO_288001, BK258, BK259, BK273, BK278, BK287, HB, -⟩ := n_
           refine start_ (n := 11) (S := fun w' => w'.cell? ⟨gb258, 0, none⟩ = some (.int .i64 a0_0) ∧ w'.cell? ⟨gb258, 1, none⟩ = some (.slice A0_1 l0_1.length c0_1) ∧ w'.cell? ⟨gb259, 0, none⟩ = some (.int .i64 a1_0) ∧ w'.cell? ⟨gb259, 1, none⟩ = some (.int .i64 a1_1) ∧ w'.cell? ⟨gb259, 2, none⟩ = some (.int .i64 a1_2)) (ds := []) #[false, false, false, false, false, false, false, false, false, false, false] (by kernel_rfl) rfl rfl ⟨(blk_cell BK258.out 0).trans rfl, (blk_cell BK258.out 1).trans rfl, (blk_cell BK259.out 0).trans rfl, (blk_cell BK259.out 1).trans rfl, (blk_cell BK259.out 2).trans rfl⟩ (fun hHeld => ?_); refine with_tabW laws_FnExactHeard.tab24 laws_FnExactHeard.bits24 (fun HT_ HW_ => ?_)
           generalize w97.drew = w104 at HO_274001 HO_279001 HO_288001 BK258 BK259 BK273 BK278 BK287 HB hHeld ⊢
           refine take_ (i := 0) (N := some 80) (v := ?_) (a' := ?_) #[true, false, false, false, false, false, false, false, false, false, false] rfl rfl (take_ofW HT_.out HW_.out (by kernel_rfl)) (fun _ _ _ h => h) (Or.inl ⟨by rfl, ?_⟩) hHeld ?_ ?_
           rotate_left
           ·rintro w' ⟨s0, s1, s2, s3, s4⟩
            go_simp
            with_reducible rfl
           rotate_left; · simp only [Act.put, List.setIfInBounds_toArray, List.set_cons_zero, List.set_cons_succ, i64_w, i32_w]; rfl
           refine take_ (i := 2) (N := some 82) (v := ?_) (a' := ?_) #[true, false, true, false, false, false, false, false, false, false, false] rfl rfl (take_ofW HT_.out HW_.out (by kernel_rfl)) (fun _ _ _ h => h) (Or.inl ⟨by rfl, ?_⟩) hHeld ?_ ?_
           rotate_left
           ·rintro w' ⟨s0, s1, s2, s3, s4⟩
            go_simp
            with_reducible rfl
           rotate_left; · simp only [Act.put, List.setIfInBounds_toArray, List.set_cons_zero, List.set_cons_succ, i64_w, i32_w]; rfl
           refine join_ (σ := Value × Value × Nat) 2 #[true, true, true, true, true, true, true, true, true, false, false] (fun s_ => [(81, .agg #[.int .i64 t300, s_.1]), (83, .agg #[.int .i64 t304, .int .i64 t305, .int .i64 t306]), (84, .tuple #[.agg #[.int .i64 t307, s_.2.1], .bool t311]), (14, .pointer (some ⟨s_.2.2, 0, none⟩)), (79, .tuple #[.agg #[.int .i64 t307, s_.2.1], .bool t311]), (85, .agg #[.int .i64 t307, s_.2.1]), (86, .bool t311)]) (fun s_ w' => (w'.cell? ⟨gb258, 0, none⟩ = some (.int .i64 a0_0) ∧ w'.cell? ⟨gb258, 1, none⟩ = some (.slice A0_1 l0_1.length c0_1) ∧ w'.cell? ⟨gb259, 0, none⟩ = some (.int .i64 a1_0) ∧ w'.cell? ⟨gb259, 1, none⟩ = some (.int .i64 a1_1) ∧ w'.cell? ⟨gb259, 2, none⟩ = some (.int .i64 a1_2)) ∧ (Kd.R k82 82 w' w.heap.size (fun k_ => some k_ ≠ (s_.2.1 : Value).ownBlock ∧ some k_ ≠ (.slice Ao25 t269.length co25 : Value).ownBlock ∧ some k_ ≠ (.slice Ao36 t295.length co36 : Value).ownBlock ∧ some k_ ≠ (.slice Ao44 t283.length co44 : Value).ownBlock) s_.1 t301) ∧ (Kd.R k82 82 w' w.heap.size (fun k_ => some k_ ≠ (s_.1 : Value).ownBlock ∧ some k_ ≠ (.slice Ao25 t269.length co25 : Value).ownBlock ∧ some k_ ≠ (.slice Ao36 t295.length co36 : Value).ownBlock ∧ some k_ ≠ (.slice Ao44 t283.length co44 : Value).ownBlock) s_.2.1 t308) ∧ (Kd.R k82 82 w' w.heap.size (fun k_ => some k_ ≠ (s_.1 : Value).ownBlock ∧ some k_ ≠ (s_.2.1 : Value).ownBlock ∧ some k_ ≠ (.slice Ao36 t295.length co36 : Value).ownBlock ∧ some k_ ≠ (.slice Ao44 t283.length co44 : Value).ownBlock) (.slice Ao25 t269.length co25) t269) ∧ (Kd.R k82 82 w' w.heap.size (fun k_ => some k_ ≠ (s_.1 : Value).ownBlock ∧ some k_ ≠ (s_.2.1 : Value).ownBlock ∧ some k_ ≠ (.slice Ao25 t269.length co25 : Value).ownBlock ∧ some k_ ≠ (.slice Ao44 t283.length co44 : Value).ownBlock) (.slice Ao36 t295.length co36) t295) ∧ (Kd.R k82 82 w' w.heap.size (fun k_ => some k_ ≠ (s_.1 : Value).ownBlock ∧ some k_ ≠ (s_.2.1 : Value).ownBlock ∧ some k_ ≠ (.slice Ao25 t269.length co25 : Value).ownBlock ∧ some k_ ≠ (.slice Ao36 t295.length co36 : Value).ownBlock) (.slice Ao44 t283.length co44) t298) ∧ (w'.heap[gb258]? = some (.cells #[.int .i64 a0_0, .slice A0_1 l0_1.length c0_1] 37 (0, 0))) ∧ (w'.heap[gb259]? = some (.cells #[.int .i64 a1_0, .int .i64 a1_1, .int .i64 a1_2] 80 (0, 0))) ∧ (w'.heap[gb273]? = some (.cells #[.int .i64 t268, .slice Ao25 t269.length co25] 41 (0, 0))) ∧ (w'.heap[gb278]? = some (.cells #[.int .i64 t274, .slice Ao36 t295.length co36] 41 (0, 0))) ∧ (w'.heap[gb287]? = some (.cells #[.int .i64 t282, .slice Ao44 t283.length co44] 41 (0, 0))) ∧ (w'.heap[s_.2.2]? = some (.cells #[.int .i64 0, .slice none 0 0] 41 (0, 0))) ∧ (w.heap.size ≤ s_.2.2) ∧ (w.heap.size ≤ s_.2.2) ∧ (gb258 ≠ s_.2.2) ∧ (s_.2.2 ≠ gb258) ∧ (gb259 ≠ s_.2.2) ∧ (s_.2.2 ≠ gb259) ∧ (gb273 ≠ s_.2.2) ∧ (s_.2.2 ≠ gb273) ∧ (gb278 ≠ s_.2.2) ∧ (s_.2.2 ≠ gb278) ∧ (gb287 ≠ s_.2.2) ∧ (s_.2.2 ≠ gb287) ∧ (Below w.heap.size w w')) ?_ ?_
           rotate_left
           ·intro hCont
            refine two_ (i := 1) (j := 8) (Ni := some 81) (Nj := some 14) #[true, true, true, false, false, false, false, false, false, false, false] #[true, false, true, false, false, false, false, false, true, false, false] rfl rfl rfl rfl (two_of HT_.out (by kernel_rfl)) (by decide) (by decide) (fun K hK => ?_) (fun K hK => ?_)
            ·skip
             refine goes_ Try.func25 (by kernel_rfl) rfl #[.agg #[.int .i64 a0_0, .slice A0_1 l0_1.length c0_1]] (by rfl) rfl rfl (by (try simp only [List.map_toArray, List.map_cons, List.map_nil]); first | done | rfl | (simp only [List.length_drop, List.length_take]; rfl)) ?_
             with_reducible refine (laws_toTable.calls kj66 a0_0 _ _ l0_1 t300 t301 _ ?side1 ?side2 A100.out).mono ?_
             (case side1 => repeat (first | exact (Kd.C_below HR0_1.out HB.out) | (with_reducible refine Kd.C_alloc ?_ _) | (with_reducible refine Kd.C_drewN ?_ _) | (with_reducible refine Kd.C_drew ?_)))
             (case side2 => exact HC0_1.out)
             rintro e w105 ⟨v302, rfl, ho0, hb⟩
             refine ⟨_, rfl, ?_⟩
             have n_ := an (Kd.R_elder' (by exact Kd.R_nw HO_274001.out) (Kd.R_base ho0) hb) (an (Kd.R_elder' (by exact Kd.R_nw HO_279001.out) (Kd.R_base ho0) hb) (an (Kd.R_elder' (by exact Kd.R_nw HO_288001.out) (Kd.R_base ho0) hb) (an (Kd.R_lower (Kd.R_new' (Kd.R_new' (Kd.R_new' ho0 (Kd.R_lt (by exact Kd.R_nw HO_274001.out))) (Kd.R_lt (by exact Kd.R_nw HO_279001.out))) (Kd.R_lt (by exact Kd.R_nw HO_288001.out))) (below_size (by exact bel0))) (an (blk_below (blk_nw BK258.out) hb) (an (blk_below (blk_nw BK259.out) hb) (an (blk_below (blk_nw BK273.out) hb) (an (blk_below (blk_nw BK278.out) hb) (an (blk_below (blk_nw BK287.out) hb) (an (below_step (by exact bel0) hb) (trivial))))))))))
             clear HO_274001 HO_279001 HO_288001 BK258 BK259 BK273 BK278 BK287 HB
             obtain ⟨HO_274001, HO_279001, HO_288001, HO303, BK258, BK259, BK273, BK278, BK287, HB, -⟩ := n_
             (try clear hb); (try clear hb2); (try clear hk); (try clear hi); (try clear ho0)
             refine hK.out _ _ ⟨(blk_cell BK258.out 0).trans rfl, (blk_cell BK258.out 1).trans rfl, (blk_cell BK259.out 0).trans rfl, (blk_cell BK259.out 1).trans rfl, (blk_cell BK259.out 2).trans rfl⟩ (fun hHeld => ?_)
             clear hK K
             refine norm_ (a' := ?_) ?_ ?_
             rotate_left
             ·show Act.put _ (some 81) _ = _
              simp only [Act.put, List.setIfInBounds_toArray, List.set_cons_zero, List.set_cons_succ, i64_w, i32_w]
              rfl
             refine two_ (i := 3) (j := 8) (Ni := some 83) (Nj := some 14) #[true, true, true, true, false, false, false, false, false, false, false] #[true, true, true, false, false, false, false, false, true, false, false] rfl rfl rfl rfl (two_of HT_.out (by kernel_rfl)) (by decide) (by decide) (fun K hK => ?_) (fun K hK => ?_)
             ·skip
              refine goes_ Try.func52 (by kernel_rfl) rfl #[.agg #[.int .i64 a1_0, .int .i64 a1_1, .int .i64 a1_2]] (by rfl) rfl rfl (by (try simp only [List.map_toArray, List.map_cons, List.map_nil]); first | done | rfl | (simp only [List.length_drop, List.length_take]; rfl)) ?_
              with_reducible refine (laws_toMember.calls a1_0 a1_1 a1_2 t304 t305 t306 _ A101.out).mono ?_
              rintro e w106 ⟨rfl, hb⟩
              refine ⟨_, rfl, ?_⟩
              have n_ := an (Kd.R_below (by exact Kd.R_nw HO_274001.out) hb) (an (Kd.R_below (by exact Kd.R_nw HO_279001.out) hb) (an (Kd.R_below (by exact Kd.R_nw HO_288001.out) hb) (an (Kd.R_below (by exact Kd.R_nw HO303.out) hb) (an (blk_below (blk_nw BK258.out) hb) (an (blk_below (blk_nw BK259.out) hb) (an (blk_below (blk_nw BK273.out) hb) (an (blk_below (blk_nw BK278.out) hb) (an (blk_below (blk_nw BK287.out) hb) (an (below_step (by exact bel0) hb) (trivial))))))))))
              clear HO_274001 HO_279001 HO_288001 HO303 BK258 BK259 BK273 BK278 BK287 HB
              obtain ⟨HO_274001, HO_279001, HO_288001, HO303, BK258, BK259, BK273, BK278, BK287, HB, -⟩ := n_
              (try clear hb); (try clear hb2); (try clear hk); (try clear hi)
              obtain ⟨Ao107, co107, eo107⟩ := Kd.R_slice HO303.out
              (first | subst eo107 | (injection eo107 with f1_ f2_ f3_; have f4_ := f1_.symm; have f5_ := f3_.symm; clear f1_ f2_ f3_; subst f4_; subst f5_))
              refine hK.out _ _ ⟨(blk_cell BK258.out 0).trans rfl, (blk_cell BK258.out 1).trans rfl, (blk_cell BK259.out 0).trans rfl, (blk_cell BK259.out 1).trans rfl, (blk_cell BK259.out 2).trans rfl⟩ (fun hHeld => ?_)
              clear hK K
              refine norm_ (a' := ?_) ?_ ?_
              rotate_left
              ·show Act.put _ (some 83) _ = _
               simp only [Act.put, List.setIfInBounds_toArray, List.set_cons_zero, List.set_cons_succ, i64_w, i32_w]
               rfl
              refine two_ (i := 4) (j := 8) (Ni := some 84) (Nj := some 14) #[true, true, true, true, true, false, false, false, false, false, false] #[true, true, true, true, false, false, false, false, true, false, false] rfl rfl rfl rfl (two_of HT_.out (by kernel_rfl)) (by decide) (by decide) (fun K hK => ?_) (fun K hK => ?_)
              ·skip
               refine goes_ Try.func53 (by kernel_rfl) rfl #[.agg #[.int .i64 t300, .slice Ao107 t301.length co107], .agg #[.int .i64 t304, .int .i64 t305, .int .i64 t306]] (by rfl) rfl rfl (by (try simp only [List.map_toArray, List.map_cons, List.map_nil]); first | done | rfl | (simp only [List.length_drop, List.length_take]; rfl)) ?_
               with_reducible refine (impl_Heard.calls kj66 t300 _ _ t301 t304 t305 t306 t307 t308 t311 _ ?side1 ?side2 A102.out).mono ?_
               (case side1 => repeat (first | exact (Kd.R_reads' HO303.out).2.2 | (with_reducible refine Kd.C_alloc ?_ _) | (with_reducible refine Kd.C_drewN ?_ _) | (with_reducible refine Kd.C_drew ?_)))
               (case side2 => exact (Kd.R_reads' HO303.out).2.1)
               rintro e w108 ⟨v309, rfl, ho0, hb⟩
               refine ⟨_, rfl, ?_⟩
               have n_ := an (Kd.R_elder' (by exact Kd.R_nw HO_274001.out) (Kd.R_base ho0) hb) (an (Kd.R_elder' (by exact Kd.R_nw HO_279001.out) (Kd.R_base ho0) hb) (an (Kd.R_elder' (by exact Kd.R_nw HO_288001.out) (Kd.R_base ho0) hb) (an (Kd.R_elder' (by exact Kd.R_nw HO303.out) (Kd.R_base ho0) hb) (an (Kd.R_lower (Kd.R_new' (Kd.R_new' (Kd.R_new' (Kd.R_new' ho0 (Kd.R_lt (by exact Kd.R_nw HO_274001.out))) (Kd.R_lt (by exact Kd.R_nw HO_279001.out))) (Kd.R_lt (by exact Kd.R_nw HO_288001.out))) (Kd.R_lt (by exact Kd.R_nw HO303.out))) (below_size (by exact bel0))) (an (blk_below (blk_nw BK258.out) hb) (an (blk_below (blk_nw BK259.out) hb) (an (blk_below (blk_nw BK273.out) hb) (an (blk_below (blk_nw BK278.out) hb) (an (blk_below (blk_nw BK287.out) hb) (an (below_step (by exact bel0) hb) (trivial)))))))))))
               clear HO_274001 HO_279001 HO_288001 HO303 BK258 BK259 BK273 BK278 BK287 HB
               obtain ⟨HO_274001, HO_279001, HO_288001, HO303, HO310, BK258, BK259, BK273, BK278, BK287, HB, -⟩ := n_
               (try clear hb); (try clear hb2); (try clear hk); (try clear hi); (try clear ho0)
               refine hK.out _ _ ⟨(blk_cell BK258.out 0).trans rfl, (blk_cell BK258.out 1).trans rfl, (blk_cell BK259.out 0).trans rfl, (blk_cell BK259.out 1).trans rfl, (blk_cell BK259.out 2).trans rfl⟩ (fun hHeld => ?_)
               clear hK K
               refine norm_ (a' := ?_) ?_ ?_
               rotate_left
               ·show Act.put _ (some 84) _ = _
                simp only [Act.put, List.setIfInBounds_toArray, List.set_cons_zero, List.set_cons_succ, i64_w, i32_w]
                rfl
               refine pure_ (i := 5) (N := some 79) (v := ?_) (a' := ?_) #[true, true, true, true, true, true, false, false, false, false, false] rfl rfl (any_of HT_.out (by kernel_rfl)) (fun _ _ _ h => h) (Or.inl ⟨by rfl, ?_⟩) ?_ ?_
               rotate_left; · intro w'; go_simp; with_reducible rfl
               rotate_left; · simp only [Act.put, List.setIfInBounds_toArray, List.set_cons_zero, List.set_cons_succ, i64_w, i32_w]; rfl
               refine pure_ (i := 6) (N := some 85) (v := ?_) (a' := ?_) #[true, true, true, true, true, true, true, false, false, false, false] rfl rfl (any_of HT_.out (by kernel_rfl)) (fun _ _ _ h => h) (Or.inl ⟨by rfl, ?_⟩) ?_ ?_
               rotate_left; · intro w'; go_simp; with_reducible rfl
               rotate_left; · simp only [Act.put, List.setIfInBounds_toArray, List.set_cons_zero, List.set_cons_succ, i64_w, i32_w]; rfl
               refine pure_ (i := 7) (N := some 86) (v := ?_) (a' := ?_) #[true, true, true, true, true, true, true, true, false, false, false] rfl rfl (any_of HT_.out (by kernel_rfl)) (fun _ _ _ h => h) (Or.inl ⟨by rfl, ?_⟩) ?_ ?_
               rotate_left; · intro w'; go_simp; with_reducible rfl
               rotate_left; · simp only [Act.put, List.setIfInBounds_toArray, List.set_cons_zero, List.set_cons_succ, i64_w, i32_w]; rfl
               refine one_ (i := 8) (N := some 14) #[true, true, true, true, true, true, true, true, true, false, false] rfl rfl (one_of HT_.out (by kernel_rfl)) (by decide) (fun K hK => ?_)
               refine box_step ?hg (N := 14) ?hd (cs := #[.int .i64 0, .slice none 0 0]) (t := 41) ?hr ?_; (case hd => rfl); (case hg => rfl); (case hr => first | (go_simp; done) | (go_simp; rfl))
               intro gb312 hg w109 hbox hb
               have n_ := an (Kd.R_below (by exact Kd.R_nw HO_274001.out) hb) (an (Kd.R_below (by exact Kd.R_nw HO_279001.out) hb) (an (Kd.R_below (by exact Kd.R_nw HO_288001.out) hb) (an (Kd.R_below (by exact Kd.R_nw HO303.out) hb) (an (Kd.R_below (by exact Kd.R_nw HO310.out) hb) (an (blk_below (blk_nw BK258.out) hb) (an (blk_below (blk_nw BK259.out) hb) (an (blk_below (blk_nw BK273.out) hb) (an (blk_below (blk_nw BK278.out) hb) (an (blk_below (blk_nw BK287.out) hb) (an (below_step (by exact bel0) hb) (an (hbox) (an ((by rw [hg]; exact (below_size (by exact bel0)) : w.heap.size ≤ gb312)) (an ((by rw [hg]; exact (below_size (by exact bel0)) : w.heap.size ≤ gb312)) (an ((by rw [hg]; exact Nat.ne_of_lt (blk_lt (blk_nw BK258.out)) : gb258 ≠ gb312)) (an ((by rw [hg]; exact Nat.ne_of_gt (blk_lt (blk_nw BK258.out)) : gb312 ≠ gb258)) (an ((by rw [hg]; exact Nat.ne_of_lt (blk_lt (blk_nw BK259.out)) : gb259 ≠ gb312)) (an ((by rw [hg]; exact Nat.ne_of_gt (blk_lt (blk_nw BK259.out)) : gb312 ≠ gb259)) (an ((by rw [hg]; exact Nat.ne_of_lt (blk_lt (blk_nw BK273.out)) : gb273 ≠ gb312)) (an ((by rw [hg]; exact Nat.ne_of_gt (blk_lt (blk_nw BK273.out)) : gb312 ≠ gb273)) (an ((by rw [hg]; exact Nat.ne_of_lt (blk_lt (blk_nw BK278.out)) : gb278 ≠ gb312)) (an ((by rw [hg]; exact Nat.ne_of_gt (blk_lt (blk_nw BK278.out)) : gb312 ≠ gb278)) (an ((by rw [hg]; exact Nat.ne_of_lt (blk_lt (blk_nw BK287.out)) : gb287 ≠ gb312)) (an ((by rw [hg]; exact Nat.ne_of_gt (blk_lt (blk_nw BK287.out)) : gb312 ≠ gb287)) (trivial))))))))))))))))))))))))
               clear HO_274001 HO_279001 HO_288001 HO303 HO310 BK258 BK259 BK273 BK278 BK287 HB
               obtain ⟨HO_274001, HO_279001, HO_288001, HO303, HO310, BK258, BK259, BK273, BK278, BK287, HB, BK312, GW312, GE312, NB258_312, NB312_258, NB259_312, NB312_259, NB273_312, NB312_273, NB278_312, NB312_278, NB287_312, NB312_287, -⟩ := n_
               clear hb hbox hg
               refine hK.out _ _ ⟨(blk_cell BK258.out 0).trans rfl, (blk_cell BK258.out 1).trans rfl, (blk_cell BK259.out 0).trans rfl, (blk_cell BK259.out 1).trans rfl, (blk_cell BK259.out 2).trans rfl⟩ (fun hHeld => ?_)
               clear hK K
               refine norm_ (a' := ?_) ?_ ?_
               rotate_left
               ·show Act.put _ (some 14) _ = _
                simp only [Act.put, List.setIfInBounds_toArray, List.set_cons_zero, List.set_cons_succ, i64_w, i32_w]
                rfl
               exact norm_ (by simp only [putAll, Act.put, List.setIfInBounds_toArray, List.set_cons_zero, List.set_cons_succ]) (hCont (.slice Ao107 t301.length co107, v309, gb312) _ ⟨hHeld, (by exact Kd.R_nw (Kd.R_mono HO303.out (fun _ hk => ⟨hk.2, ⟨hk.1.1.1.2, ⟨hk.1.1.2, hk.1.2⟩⟩⟩))), (by exact Kd.R_nw (Kd.R_mono HO310.out (fun _ hk => ⟨hk.2, ⟨hk.1.1.1.2, ⟨hk.1.1.2, hk.1.2⟩⟩⟩))), (by exact Kd.R_nw (Kd.R_mono HO_274001.out (fun _ hk => ⟨hk.1.2, ⟨hk.2, ⟨hk.1.1.1, hk.1.1.2⟩⟩⟩))), (by exact Kd.R_nw (Kd.R_mono HO_279001.out (fun _ hk => ⟨hk.1.2, ⟨hk.2, ⟨hk.1.1.1, hk.1.1.2⟩⟩⟩))), (by exact Kd.R_nw (Kd.R_mono HO_288001.out (fun _ hk => ⟨hk.1.2, ⟨hk.2, ⟨hk.1.1.1, hk.1.1.2⟩⟩⟩))), (by exact blk_nw BK258.out), (by exact blk_nw BK259.out), (by exact blk_nw BK273.out), (by exact blk_nw BK278.out), (by exact blk_nw BK287.out), (by exact blk_nw BK312.out), GW312.out, GE312.out, NB258_312.out, NB312_258.out, NB259_312.out, NB312_259.out, NB273_312.out, NB312_273.out, NB278_312.out, NB312_278.out, NB287_312.out, NB312_287.out, (by exact bel0)⟩)
              ·skip
               refine box_step ?hg (N := 14) ?hd (cs := #[.int .i64 0, .slice none 0 0]) (t := 41) ?hr ?_; (case hd => rfl); (case hg => rfl); (case hr => first | (go_simp; done) | (go_simp; rfl))
               intro gb312 hg w107 hbox hb
               have n_ := an (Kd.R_below (by exact Kd.R_nw HO_274001.out) hb) (an (Kd.R_below (by exact Kd.R_nw HO_279001.out) hb) (an (Kd.R_below (by exact Kd.R_nw HO_288001.out) hb) (an (Kd.R_below (by exact Kd.R_nw HO303.out) hb) (an (blk_below (blk_nw BK258.out) hb) (an (blk_below (blk_nw BK259.out) hb) (an (blk_below (blk_nw BK273.out) hb) (an (blk_below (blk_nw BK278.out) hb) (an (blk_below (blk_nw BK287.out) hb) (an (below_step (by exact bel0) hb) (an (hbox) (an ((by rw [hg]; exact (below_size (by exact bel0)) : w.heap.size ≤ gb312)) (an ((by rw [hg]; exact (below_size (by exact bel0)) : w.heap.size ≤ gb312)) (an ((by rw [hg]; exact Nat.ne_of_lt (blk_lt (blk_nw BK258.out)) : gb258 ≠ gb312)) (an ((by rw [hg]; exact Nat.ne_of_gt (blk_lt (blk_nw BK258.out)) : gb312 ≠ gb258)) (an ((by rw [hg]; exact Nat.ne_of_lt (blk_lt (blk_nw BK259.out)) : gb259 ≠ gb312)) (an ((by rw [hg]; exact Nat.ne_of_gt (blk_lt (blk_nw BK259.out)) : gb312 ≠ gb259)) (an ((by rw [hg]; exact Nat.ne_of_lt (blk_lt (blk_nw BK273.out)) : gb273 ≠ gb312)) (an ((by rw [hg]; exact Nat.ne_of_gt (blk_lt (blk_nw BK273.out)) : gb312 ≠ gb273)) (an ((by rw [hg]; exact Nat.ne_of_lt (blk_lt (blk_nw BK278.out)) : gb278 ≠ gb312)) (an ((by rw [hg]; exact Nat.ne_of_gt (blk_lt (blk_nw BK278.out)) : gb312 ≠ gb278)) (an ((by rw [hg]; exact Nat.ne_of_lt (blk_lt (blk_nw BK287.out)) : gb287 ≠ gb312)) (an ((by rw [hg]; exact Nat.ne_of_gt (blk_lt (blk_nw BK287.out)) : gb312 ≠ gb287)) (trivial)))))))))))))))))))))))
               clear HO_274001 HO_279001 HO_288001 HO303 BK258 BK259 BK273 BK278 BK287 HB
               obtain ⟨HO_274001, HO_279001, HO_288001, HO303, BK258, BK259, BK273, BK278, BK287, HB, BK312, GW312, GE312, NB258_312, NB312_258, NB259_312, NB312_259, NB273_312, NB312_273, NB278_312, NB312_278, NB287_312, NB312_287, -⟩ := n_
               clear hb hbox hg
               obtain ⟨Ao108, co108, eo108⟩ := Kd.R_slice HO303.out
               (first | subst eo108 | (injection eo108 with f1_ f2_ f3_; have f4_ := f1_.symm; have f5_ := f3_.symm; clear f1_ f2_ f3_; subst f4_; subst f5_))
               refine hK.out _ _ ⟨(blk_cell BK258.out 0).trans rfl, (blk_cell BK258.out 1).trans rfl, (blk_cell BK259.out 0).trans rfl, (blk_cell BK259.out 1).trans rfl, (blk_cell BK259.out 2).trans rfl⟩ (fun hHeld => ?_)
               clear hK K
               refine norm_ (a' := ?_) ?_ ?_
               rotate_left
               ·show Act.put _ (some 14) _ = _
                simp only [Act.put, List.setIfInBounds_toArray, List.set_cons_zero, List.set_cons_succ, i64_w, i32_w]
                rfl
               refine one_ (i := 4) (N := some 84) #[true, true, true, true, true, false, false, false, true, false, false] rfl rfl (one_of HT_.out (by kernel_rfl)) (by decide) (fun K hK => ?_)
               refine goes_ Try.func53 (by kernel_rfl) rfl #[.agg #[.int .i64 t300, .slice Ao108 t301.length co108], .agg #[.int .i64 t304, .int .i64 t305, .int .i64 t306]] (by rfl) rfl rfl (by (try simp only [List.map_toArray, List.map_cons, List.map_nil]); first | done | rfl | (simp only [List.length_drop, List.length_take]; rfl)) ?_
               with_reducible refine (impl_Heard.calls kj66 t300 _ _ t301 t304 t305 t306 t307 t308 t311 _ ?side1 ?side2 A102.out).mono ?_
               (case side1 => repeat (first | exact (Kd.R_reads' HO303.out).2.2 | (with_reducible refine Kd.C_alloc ?_ _) | (with_reducible refine Kd.C_drewN ?_ _) | (with_reducible refine Kd.C_drew ?_)))
               (case side2 => exact (Kd.R_reads' HO303.out).2.1)
               rintro e w109 ⟨v309, rfl, ho0, hb⟩
               refine ⟨_, rfl, ?_⟩
               have n_ := an (Kd.R_elder' (by exact Kd.R_nw HO_274001.out) (Kd.R_base ho0) hb) (an (Kd.R_elder' (by exact Kd.R_nw HO_279001.out) (Kd.R_base ho0) hb) (an (Kd.R_elder' (by exact Kd.R_nw HO_288001.out) (Kd.R_base ho0) hb) (an (Kd.R_elder' (by exact Kd.R_nw HO303.out) (Kd.R_base ho0) hb) (an (Kd.R_lower (Kd.R_new' (Kd.R_new' (Kd.R_new' (Kd.R_new' ho0 (Kd.R_lt (by exact Kd.R_nw HO_274001.out))) (Kd.R_lt (by exact Kd.R_nw HO_279001.out))) (Kd.R_lt (by exact Kd.R_nw HO_288001.out))) (Kd.R_lt (by exact Kd.R_nw HO303.out))) (below_size (by exact bel0))) (an (blk_below (blk_nw BK258.out) hb) (an (blk_below (blk_nw BK259.out) hb) (an (blk_below (blk_nw BK273.out) hb) (an (blk_below (blk_nw BK278.out) hb) (an (blk_below (blk_nw BK287.out) hb) (an (blk_below (blk_nw BK312.out) hb) (an (below_step (by exact bel0) hb) (trivial))))))))))))
               clear HO_274001 HO_279001 HO_288001 HO303 BK258 BK259 BK273 BK278 BK287 BK312 HB
               obtain ⟨HO_274001, HO_279001, HO_288001, HO303, HO310, BK258, BK259, BK273, BK278, BK287, BK312, HB, -⟩ := n_
               (try clear hb); (try clear hb2); (try clear hk); (try clear hi); (try clear ho0)
               refine hK.out _ _ ⟨(blk_cell BK258.out 0).trans rfl, (blk_cell BK258.out 1).trans rfl, (blk_cell BK259.out 0).trans rfl, (blk_cell BK259.out 1).trans rfl, (blk_cell BK259.out 2).trans rfl⟩ (fun hHeld => ?_)
               clear hK K
               refine norm_ (a' := ?_) ?_ ?_
               rotate_left
               ·show Act.put _ (some 84) _ = _
                simp only [Act.put, List.setIfInBounds_toArray, List.set_cons_zero, List.set_cons_succ, i64_w, i32_w]
                rfl
               refine pure_ (i := 5) (N := some 79) (v := ?_) (a' := ?_) #[true, true, true, true, true, true, false, false, true, false, false] rfl rfl (any_of HT_.out (by kernel_rfl)) (fun _ _ _ h => h) (Or.inl ⟨by rfl, ?_⟩) ?_ ?_
               rotate_left; · intro w'; go_simp; with_reducible rfl
               rotate_left; · simp only [Act.put, List.setIfInBounds_toArray, List.set_cons_zero, List.set_cons_succ, i64_w, i32_w]; rfl
               refine pure_ (i := 6) (N := some 85) (v := ?_) (a' := ?_) #[true, true, true, true, true, true, true, false, true, false, false] rfl rfl (any_of HT_.out (by kernel_rfl)) (fun _ _ _ h => h) (Or.inl ⟨by rfl, ?_⟩) ?_ ?_
               rotate_left; · intro w'; go_simp; with_reducible rfl
               rotate_left; · simp only [Act.put, List.setIfInBounds_toArray, List.set_cons_zero, List.set_cons_succ, i64_w, i32_w]; rfl
               refine pure_ (i := 7) (N := some 86) (v := ?_) (a' := ?_) #[true, true, true, true, true, true, true, true, true, false, false] rfl rfl (any_of HT_.out (by kernel_rfl)) (fun _ _ _ h => h) (Or.inl ⟨by rfl, ?_⟩) ?_ ?_
               rotate_left; · intro w'; go_simp; with_reducible rfl
               rotate_left; · simp only [Act.put, List.setIfInBounds_toArray, List.set_cons_zero, List.set_cons_succ, i64_w, i32_w]; rfl
               exact norm_ (by simp only [putAll, Act.put, List.setIfInBounds_toArray, List.set_cons_zero, List.set_cons_succ]) (hCont (.slice Ao108 t301.length co108, v309, gb312) _ ⟨hHeld, (by exact Kd.R_nw (Kd.R_mono HO303.out (fun _ hk => ⟨hk.2, ⟨hk.1.1.1.2, ⟨hk.1.1.2, hk.1.2⟩⟩⟩))), (by exact Kd.R_nw (Kd.R_mono HO310.out (fun _ hk => ⟨hk.2, ⟨hk.1.1.1.2, ⟨hk.1.1.2, hk.1.2⟩⟩⟩))), (by exact Kd.R_nw (Kd.R_mono HO_274001.out (fun _ hk => ⟨hk.1.2, ⟨hk.2, ⟨hk.1.1.1, hk.1.1.2⟩⟩⟩))), (by exact Kd.R_nw (Kd.R_mono HO_279001.out (fun _ hk => ⟨hk.1.2, ⟨hk.2, ⟨hk.1.1.1, hk.1.1.2⟩⟩⟩))), (by exact Kd.R_nw (Kd.R_mono HO_288001.out (fun _ hk => ⟨hk.1.2, ⟨hk.2, ⟨hk.1.1.1, hk.1.1.2⟩⟩⟩))), (by exact blk_nw BK258.out), (by exact blk_nw BK259.out), (by exact blk_nw BK273.out), (by exact blk_nw BK278.out), (by exact blk_nw BK287.out), (by exact blk_nw BK312.out), GW312.out, GE312.out, NB258_312.out, NB312_258.out, NB259_312.out, NB312_259.out, NB273_312.out, NB312_273.out, NB278_312.out, NB312_278.out, NB287_312.out, NB312_287.out, (by exact bel0)⟩)
             ·skip
              refine box_step ?hg (N := 14) ?hd (cs := #[.int .i64 0, .slice none 0 0]) (t := 41) ?hr ?_; (case hd => rfl); (case hg => rfl); (case hr => first | (go_simp; done) | (go_simp; rfl))
              intro gb312 hg w106 hbox hb
              have n_ := an (Kd.R_below (by exact Kd.R_nw HO_274001.out) hb) (an (Kd.R_below (by exact Kd.R_nw HO_279001.out) hb) (an (Kd.R_below (by exact Kd.R_nw HO_288001.out) hb) (an (Kd.R_below (by exact Kd.R_nw HO303.out) hb) (an (blk_below (blk_nw BK258.out) hb) (an (blk_below (blk_nw BK259.out) hb) (an (blk_below (blk_nw BK273.out) hb) (an (blk_below (blk_nw BK278.out) hb) (an (blk_below (blk_nw BK287.out) hb) (an (below_step (by exact bel0) hb) (an (hbox) (an ((by rw [hg]; exact (below_size (by exact bel0)) : w.heap.size ≤ gb312)) (an ((by rw [hg]; exact (below_size (by exact bel0)) : w.heap.size ≤ gb312)) (an ((by rw [hg]; exact Nat.ne_of_lt (blk_lt (blk_nw BK258.out)) : gb258 ≠ gb312)) (an ((by rw [hg]; exact Nat.ne_of_gt (blk_lt (blk_nw BK258.out)) : gb312 ≠ gb258)) (an ((by rw [hg]; exact Nat.ne_of_lt (blk_lt (blk_nw BK259.out)) : gb259 ≠ gb312)) (an ((by rw [hg]; exact Nat.ne_of_gt (blk_lt (blk_nw BK259.out)) : gb312 ≠ gb259)) (an ((by rw [hg]; exact Nat.ne_of_lt (blk_lt (blk_nw BK273.out)) : gb273 ≠ gb312)) (an ((by rw [hg]; exact Nat.ne_of_gt (blk_lt (blk_nw BK273.out)) : gb312 ≠ gb273)) (an ((by rw [hg]; exact Nat.ne_of_lt (blk_lt (blk_nw BK278.out)) : gb278 ≠ gb312)) (an ((by rw [hg]; exact Nat.ne_of_gt (blk_lt (blk_nw BK278.out)) : gb312 ≠ gb278)) (an ((by rw [hg]; exact Nat.ne_of_lt (blk_lt (blk_nw BK287.out)) : gb287 ≠ gb312)) (an ((by rw [hg]; exact Nat.ne_of_gt (blk_lt (blk_nw BK287.out)) : gb312 ≠ gb287)) (trivial)))))))))))))))))))))))
              clear HO_274001 HO_279001 HO_288001 HO303 BK258 BK259 BK273 BK278 BK287 HB
              obtain ⟨HO_274001, HO_279001, HO_288001, HO303, BK258, BK259, BK273, BK278, BK287, HB, BK312, GW312, GE312, NB258_312, NB312_258, NB259_312, NB312_259, NB273_312, NB312_273, NB278_312, NB312_278, NB287_312, NB312_287, -⟩ := n_
              clear hb hbox hg
              refine hK.out _ _ ⟨(blk_cell BK258.out 0).trans rfl, (blk_cell BK258.out 1).trans rfl, (blk_cell BK259.out 0).trans rfl, (blk_cell BK259.out 1).trans rfl, (blk_cell BK259.out 2).trans rfl⟩ (fun hHeld => ?_)
              clear hK K
              refine norm_ (a' := ?_) ?_ ?_
              rotate_left
              ·show Act.put _ (some 14) _ = _
               simp only [Act.put, List.setIfInBounds_toArray, List.set_cons_zero, List.set_cons_succ, i64_w, i32_w]
               rfl
              refine one_ (i := 3) (N := some 83) #[true, true, true, true, false, false, false, false, true, false, false] rfl rfl (one_of HT_.out (by kernel_rfl)) (by decide) (fun K hK => ?_)
              refine goes_ Try.func52 (by kernel_rfl) rfl #[.agg #[.int .i64 a1_0, .int .i64 a1_1, .int .i64 a1_2]] (by rfl) rfl rfl (by (try simp only [List.map_toArray, List.map_cons, List.map_nil]); first | done | rfl | (simp only [List.length_drop, List.length_take]; rfl)) ?_
              with_reducible refine (laws_toMember.calls a1_0 a1_1 a1_2 t304 t305 t306 _ A101.out).mono ?_
              rintro e w107 ⟨rfl, hb⟩
              refine ⟨_, rfl, ?_⟩
              have n_ := an (Kd.R_below (by exact Kd.R_nw HO_274001.out) hb) (an (Kd.R_below (by exact Kd.R_nw HO_279001.out) hb) (an (Kd.R_below (by exact Kd.R_nw HO_288001.out) hb) (an (Kd.R_below (by exact Kd.R_nw HO303.out) hb) (an (blk_below (blk_nw BK258.out) hb) (an (blk_below (blk_nw BK259.out) hb) (an (blk_below (blk_nw BK273.out) hb) (an (blk_below (blk_nw BK278.out) hb) (an (blk_below (blk_nw BK287.out) hb) (an (blk_below (blk_nw BK312.out) hb) (an (below_step (by exact bel0) hb) (trivial)))))))))))
              clear HO_274001 HO_279001 HO_288001 HO303 BK258 BK259 BK273 BK278 BK287 BK312 HB
              obtain ⟨HO_274001, HO_279001, HO_288001, HO303, BK258, BK259, BK273, BK278, BK287, BK312, HB, -⟩ := n_
              (try clear hb); (try clear hb2); (try clear hk); (try clear hi)
              obtain ⟨Ao108, co108, eo108⟩ := Kd.R_slice HO303.out
              (first | subst eo108 | (injection eo108 with f1_ f2_ f3_; have f4_ := f1_.symm; have f5_ := f3_.symm; clear f1_ f2_ f3_; subst f4_; subst f5_))
              refine hK.out _ _ ⟨(blk_cell BK258.out 0).trans rfl, (blk_cell BK258.out 1).trans rfl, (blk_cell BK259.out 0).trans rfl, (blk_cell BK259.out 1).trans rfl, (blk_cell BK259.out 2).trans rfl⟩ (fun hHeld => ?_)
              clear hK K
              refine norm_ (a' := ?_) ?_ ?_
              rotate_left
              ·show Act.put _ (some 83) _ = _
               simp only [Act.put, List.setIfInBounds_toArray, List.set_cons_zero, List.set_cons_succ, i64_w, i32_w]
               rfl
              refine one_ (i := 4) (N := some 84) #[true, true, true, true, true, false, false, false, true, false, false] rfl rfl (one_of HT_.out (by kernel_rfl)) (by decide) (fun K hK => ?_)
              refine goes_ Try.func53 (by kernel_rfl) rfl #[.agg #[.int .i64 t300, .slice Ao108 t301.length co108], .agg #[.int .i64 t304, .int .i64 t305, .int .i64 t306]] (by rfl) rfl rfl (by (try simp only [List.map_toArray, List.map_cons, List.map_nil]); first | done | rfl | (simp only [List.length_drop, List.length_take]; rfl)) ?_
              with_reducible refine (impl_Heard.calls kj66 t300 _ _ t301 t304 t305 t306 t307 t308 t311 _ ?side1 ?side2 A102.out).mono ?_
              (case side1 => repeat (first | exact (Kd.R_reads' HO303.out).2.2 | (with_reducible refine Kd.C_alloc ?_ _) | (with_reducible refine Kd.C_drewN ?_ _) | (with_reducible refine Kd.C_drew ?_)))
              (case side2 => exact (Kd.R_reads' HO303.out).2.1)
              rintro e w109 ⟨v309, rfl, ho0, hb⟩
              refine ⟨_, rfl, ?_⟩
              have n_ := an (Kd.R_elder' (by exact Kd.R_nw HO_274001.out) (Kd.R_base ho0) hb) (an (Kd.R_elder' (by exact Kd.R_nw HO_279001.out) (Kd.R_base ho0) hb) (an (Kd.R_elder' (by exact Kd.R_nw HO_288001.out) (Kd.R_base ho0) hb) (an (Kd.R_elder' (by exact Kd.R_nw HO303.out) (Kd.R_base ho0) hb) (an (Kd.R_lower (Kd.R_new' (Kd.R_new' (Kd.R_new' (Kd.R_new' ho0 (Kd.R_lt (by exact Kd.R_nw HO_274001.out))) (Kd.R_lt (by exact Kd.R_nw HO_279001.out))) (Kd.R_lt (by exact Kd.R_nw HO_288001.out))) (Kd.R_lt (by exact Kd.R_nw HO303.out))) (below_size (by exact bel0))) (an (blk_below (blk_nw BK258.out) hb) (an (blk_below (blk_nw BK259.out) hb) (an (blk_below (blk_nw BK273.out) hb) (an (blk_below (blk_nw BK278.out) hb) (an (blk_below (blk_nw BK287.out) hb) (an (blk_below (blk_nw BK312.out) hb) (an (below_step (by exact bel0) hb) (trivial))))))))))))
              clear HO_274001 HO_279001 HO_288001 HO303 BK258 BK259 BK273 BK278 BK287 BK312 HB
              obtain ⟨HO_274001, HO_279001, HO_288001, HO303, HO310, BK258, BK259, BK273, BK278, BK287, BK312, HB, -⟩ := n_
              (try clear hb); (try clear hb2); (try clear hk); (try clear hi); (try clear ho0)
              refine hK.out _ _ ⟨(blk_cell BK258.out 0).trans rfl, (blk_cell BK258.out 1).trans rfl, (blk_cell BK259.out 0).trans rfl, (blk_cell BK259.out 1).trans rfl, (blk_cell BK259.out 2).trans rfl⟩ (fun hHeld => ?_)
              clear hK K
              refine norm_ (a' := ?_) ?_ ?_
              rotate_left
              ·show Act.put _ (some 84) _ = _
               simp only [Act.put, List.setIfInBounds_toArray, List.set_cons_zero, List.set_cons_succ, i64_w, i32_w]
               rfl
              refine pure_ (i := 5) (N := some 79) (v := ?_) (a' := ?_) #[true, true, true, true, true, true, false, false, true, false, false] rfl rfl (any_of HT_.out (by kernel_rfl)) (fun _ _ _ h => h) (Or.inl ⟨by rfl, ?_⟩) ?_ ?_
              rotate_left; · intro w'; go_simp; with_reducible rfl
              rotate_left; · simp only [Act.put, List.setIfInBounds_toArray, List.set_cons_zero, List.set_cons_succ, i64_w, i32_w]; rfl
              refine pure_ (i := 6) (N := some 85) (v := ?_) (a' := ?_) #[true, true, true, true, true, true, true, false, true, false, false] rfl rfl (any_of HT_.out (by kernel_rfl)) (fun _ _ _ h => h) (Or.inl ⟨by rfl, ?_⟩) ?_ ?_
              rotate_left; · intro w'; go_simp; with_reducible rfl
              rotate_left; · simp only [Act.put, List.setIfInBounds_toArray, List.set_cons_zero, List.set_cons_succ, i64_w, i32_w]; rfl
              refine pure_ (i := 7) (N := some 86) (v := ?_) (a' := ?_) #[true, true, true, true, true, true, true, true, true, false, false] rfl rfl (any_of HT_.out (by kernel_rfl)) (fun _ _ _ h => h) (Or.inl ⟨by rfl, ?_⟩) ?_ ?_
              rotate_left; · intro w'; go_simp; with_reducible rfl
              rotate_left; · simp only [Act.put, List.setIfInBounds_toArray, List.set_cons_zero, List.set_cons_succ, i64_w, i32_w]; rfl
              exact norm_ (by simp only [putAll, Act.put, List.setIfInBounds_toArray, List.set_cons_zero, List.set_cons_succ]) (hCont (.slice Ao108 t301.length co108, v309, gb312) _ ⟨hHeld, (by exact Kd.R_nw (Kd.R_mono HO303.out (fun _ hk => ⟨hk.2, ⟨hk.1.1.1.2, ⟨hk.1.1.2, hk.1.2⟩⟩⟩))), (by exact Kd.R_nw (Kd.R_mono HO310.out (fun _ hk => ⟨hk.2, ⟨hk.1.1.1.2, ⟨hk.1.1.2, hk.1.2⟩⟩⟩))), (by exact Kd.R_nw (Kd.R_mono HO_274001.out (fun _ hk => ⟨hk.1.2, ⟨hk.2, ⟨hk.1.1.1, hk.1.1.2⟩⟩⟩))), (by exact Kd.R_nw (Kd.R_mono HO_279001.out (fun _ hk => ⟨hk.1.2, ⟨hk.2, ⟨hk.1.1.1, hk.1.1.2⟩⟩⟩))), (by exact Kd.R_nw (Kd.R_mono HO_288001.out (fun _ hk => ⟨hk.1.2, ⟨hk.2, ⟨hk.1.1.1, hk.1.1.2⟩⟩⟩))), (by exact blk_nw BK258.out), (by exact blk_nw BK259.out), (by exact blk_nw BK273.out), (by exact blk_nw BK278.out), (by exact blk_nw BK287.out), (by exact blk_nw BK312.out), GW312.out, GE312.out, NB258_312.out, NB312_258.out, NB259_312.out, NB312_259.out, NB273_312.out, NB312_273.out, NB278_312.out, NB312_278.out, NB287_312.out, NB312_287.out, (by exact bel0)⟩)
            ·skip
             refine box_step ?hg (N := 14) ?hd (cs := #[.int .i64 0, .slice none 0 0]) (t := 41) ?hr ?_; (case hd => rfl); (case hg => rfl); (case hr => first | (go_simp; done) | (go_simp; rfl))
             intro gb312 hg w105 hbox hb
             have n_ := an (Kd.R_below (by exact Kd.R_nw HO_274001.out) hb) (an (Kd.R_below (by exact Kd.R_nw HO_279001.out) hb) (an (Kd.R_below (by exact Kd.R_nw HO_288001.out) hb) (an (blk_below (blk_nw BK258.out) hb) (an (blk_below (blk_nw BK259.out) hb) (an (blk_below (blk_nw BK273.out) hb) (an (blk_below (blk_nw BK278.out) hb) (an (blk_below (blk_nw BK287.out) hb) (an (below_step (by exact bel0) hb) (an (hbox) (an ((by rw [hg]; exact (below_size (by exact bel0)) : w.heap.size ≤ gb312)) (an ((by rw [hg]; exact (below_size (by exact bel0)) : w.heap.size ≤ gb312)) (an ((by rw [hg]; exact Nat.ne_of_lt (blk_lt (blk_nw BK258.out)) : gb258 ≠ gb312)) (an ((by rw [hg]; exact Nat.ne_of_gt (blk_lt (blk_nw BK258.out)) : gb312 ≠ gb258)) (an ((by rw [hg]; exact Nat.ne_of_lt (blk_lt (blk_nw BK259.out)) : gb259 ≠ gb312)) (an ((by rw [hg]; exact Nat.ne_of_gt (blk_lt (blk_nw BK259.out)) : gb312 ≠ gb259)) (an ((by rw [hg]; exact Nat.ne_of_lt (blk_lt (blk_nw BK273.out)) : gb273 ≠ gb312)) (an ((by rw [hg]; exact Nat.ne_of_gt (blk_lt (blk_nw BK273.out)) : gb312 ≠ gb273)) (an ((by rw [hg]; exact Nat.ne_of_lt (blk_lt (blk_nw BK278.out)) : gb278 ≠ gb312)) (an ((by rw [hg]; exact Nat.ne_of_gt (blk_lt (blk_nw BK278.out)) : gb312 ≠ gb278)) (an ((by rw [hg]; exact Nat.ne_of_lt (blk_lt (blk_nw BK287.out)) : gb287 ≠ gb312)) (an ((by rw [hg]; exact Nat.ne_of_gt (blk_lt (blk_nw BK287.out)) : gb312 ≠ gb287)) (trivial))))))))))))))))))))))
             clear HO_274001 HO_279001 HO_288001 BK258 BK259 BK273 BK278 BK287 HB
             obtain ⟨HO_274001, HO_279001, HO_288001, BK258, BK259, BK273, BK278, BK287, HB, BK312, GW312, GE312, NB258_312, NB312_258, NB259_312, NB312_259, NB273_312, NB312_273, NB278_312, NB312_278, NB287_312, NB312_287, -⟩ := n_
             clear hb hbox hg
             refine hK.out _ _ ⟨(blk_cell BK258.out 0).trans rfl, (blk_cell BK258.out 1).trans rfl, (blk_cell BK259.out 0).trans rfl, (blk_cell BK259.out 1).trans rfl, (blk_cell BK259.out 2).trans rfl⟩ (fun hHeld => ?_)
             clear hK K
             refine norm_ (a' := ?_) ?_ ?_
             rotate_left
             ·show Act.put _ (some 14) _ = _
              simp only [Act.put, List.setIfInBounds_toArray, List.set_cons_zero, List.set_cons_succ, i64_w, i32_w]
              rfl
             refine one_ (i := 1) (N := some 81) #[true, true, true, false, false, false, false, false, true, false, false] rfl rfl (one_of HT_.out (by kernel_rfl)) (by decide) (fun K hK => ?_)
             refine goes_ Try.func25 (by kernel_rfl) rfl #[.agg #[.int .i64 a0_0, .slice A0_1 l0_1.length c0_1]] (by rfl) rfl rfl (by (try simp only [List.map_toArray, List.map_cons, List.map_nil]); first | done | rfl | (simp only [List.length_drop, List.length_take]; rfl)) ?_
             with_reducible refine (laws_toTable.calls kj66 a0_0 _ _ l0_1 t300 t301 _ ?side1 ?side2 A100.out).mono ?_
             (case side1 => repeat (first | exact (Kd.C_below HR0_1.out HB.out) | (with_reducible refine Kd.C_alloc ?_ _) | (with_reducible refine Kd.C_drewN ?_ _) | (with_reducible refine Kd.C_drew ?_)))
             (case side2 => exact HC0_1.out)
             rintro e w106 ⟨v302, rfl, ho0, hb⟩
             refine ⟨_, rfl, ?_⟩
             have n_ := an (Kd.R_elder' (by exact Kd.R_nw HO_274001.out) (Kd.R_base ho0) hb) (an (Kd.R_elder' (by exact Kd.R_nw HO_279001.out) (Kd.R_base ho0) hb) (an (Kd.R_elder' (by exact Kd.R_nw HO_288001.out) (Kd.R_base ho0) hb) (an (Kd.R_lower (Kd.R_new' (Kd.R_new' (Kd.R_new' ho0 (Kd.R_lt (by exact Kd.R_nw HO_274001.out))) (Kd.R_lt (by exact Kd.R_nw HO_279001.out))) (Kd.R_lt (by exact Kd.R_nw HO_288001.out))) (below_size (by exact bel0))) (an (blk_below (blk_nw BK258.out) hb) (an (blk_below (blk_nw BK259.out) hb) (an (blk_below (blk_nw BK273.out) hb) (an (blk_below (blk_nw BK278.out) hb) (an (blk_below (blk_nw BK287.out) hb) (an (blk_below (blk_nw BK312.out) hb) (an (below_step (by exact bel0) hb) (trivial)))))))))))
             clear HO_274001 HO_279001 HO_288001 BK258 BK259 BK273 BK278 BK287 BK312 HB
             obtain ⟨HO_274001, HO_279001, HO_288001, HO303, BK258, BK259, BK273, BK278, BK287, BK312, HB, -⟩ := n_
             (try clear hb); (try clear hb2); (try clear hk); (try clear hi); (try clear ho0)
             refine hK.out _ _ ⟨(blk_cell BK258.out 0).trans rfl, (blk_cell BK258.out 1).trans rfl, (blk_cell BK259.out 0).trans rfl, (blk_cell BK259.out 1).trans rfl, (blk_cell BK259.out 2).trans rfl⟩ (fun hHeld => ?_)
             clear hK K
             refine norm_ (a' := ?_) ?_ ?_
             rotate_left
             ·show Act.put _ (some 81) _ = _
              simp only [Act.put, List.setIfInBounds_toArray, List.set_cons_zero, List.set_cons_succ, i64_w, i32_w]
              rfl
             refine one_ (i := 3) (N := some 83) #[true, true, true, true, false, false, false, false, true, false, false] rfl rfl (one_of HT_.out (by kernel_rfl)) (by decide) (fun K hK => ?_)
             refine goes_ Try.func52 (by kernel_rfl) rfl #[.agg #[.int .i64 a1_0, .int .i64 a1_1, .int .i64 a1_2]] (by rfl) rfl rfl (by (try simp only [List.map_toArray, List.map_cons, List.map_nil]); first | done | rfl | (simp only [List.length_drop, List.length_take]; rfl)) ?_
             with_reducible refine (laws_toMember.calls a1_0 a1_1 a1_2 t304 t305 t306 _ A101.out).mono ?_
             rintro e w107 ⟨rfl, hb⟩
             refine ⟨_, rfl, ?_⟩
             have n_ := an (Kd.R_below (by exact Kd.R_nw HO_274001.out) hb) (an (Kd.R_below (by exact Kd.R_nw HO_279001.out) hb) (an (Kd.R_below (by exact Kd.R_nw HO_288001.out) hb) (an (Kd.R_below (by exact Kd.R_nw HO303.out) hb) (an (blk_below (blk_nw BK258.out) hb) (an (blk_below (blk_nw BK259.out) hb) (an (blk_below (blk_nw BK273.out) hb) (an (blk_below (blk_nw BK278.out) hb) (an (blk_below (blk_nw BK287.out) hb) (an (blk_below (blk_nw BK312.out) hb) (an (below_step (by exact bel0) hb) (trivial)))))))))))
             clear HO_274001 HO_279001 HO_288001 HO303 BK258 BK259 BK273 BK278 BK287 BK312 HB
             obtain ⟨HO_274001, HO_279001, HO_288001, HO303, BK258, BK259, BK273, BK278, BK287, BK312, HB, -⟩ := n_
             (try clear hb); (try clear hb2); (try clear hk); (try clear hi)
             obtain ⟨Ao108, co108, eo108⟩ := Kd.R_slice HO303.out
             (first | subst eo108 | (injection eo108 with f1_ f2_ f3_; have f4_ := f1_.symm; have f5_ := f3_.symm; clear f1_ f2_ f3_; subst f4_; subst f5_))
             refine hK.out _ _ ⟨(blk_cell BK258.out 0).trans rfl, (blk_cell BK258.out 1).trans rfl, (blk_cell BK259.out 0).trans rfl, (blk_cell BK259.out 1).trans rfl, (blk_cell BK259.out 2).trans rfl⟩ (fun hHeld => ?_)
             clear hK K
             refine norm_ (a' := ?_) ?_ ?_
             rotate_left
             ·show Act.put _ (some 83) _ = _
              simp only [Act.put, List.setIfInBounds_toArray, List.set_cons_zero, List.set_cons_succ, i64_w, i32_w]
              rfl
             refine one_ (i := 4) (N := some 84) #[true, true, true, true, true, false, false, false, true, false, false] rfl rfl (one_of HT_.out (by kernel_rfl)) (by decide) (fun K hK => ?_)
             refine goes_ Try.func53 (by kernel_rfl) rfl #[.agg #[.int .i64 t300, .slice Ao108 t301.length co108], .agg #[.int .i64 t304, .int .i64 t305, .int .i64 t306]] (by rfl) rfl rfl (by (try simp only [List.map_toArray, List.map_cons, List.map_nil]); first | done | rfl | (simp only [List.length_drop, List.length_take]; rfl)) ?_
             with_reducible refine (impl_Heard.calls kj66 t300 _ _ t301 t304 t305 t306 t307 t308 t311 _ ?side1 ?side2 A102.out).mono ?_
             (case side1 => repeat (first | exact (Kd.R_reads' HO303.out).2.2 | (with_reducible refine Kd.C_alloc ?_ _) | (with_reducible refine Kd.C_drewN ?_ _) | (with_reducible refine Kd.C_drew ?_)))
             (case side2 => exact (Kd.R_reads' HO303.out).2.1)
             rintro e w109 ⟨v309, rfl, ho0, hb⟩
             refine ⟨_, rfl, ?_⟩
             have n_ := an (Kd.R_elder' (by exact Kd.R_nw HO_274001.out) (Kd.R_base ho0) hb) (an (Kd.R_elder' (by exact Kd.R_nw HO_279001.out) (Kd.R_base ho0) hb) (an (Kd.R_elder' (by exact Kd.R_nw HO_288001.out) (Kd.R_base ho0) hb) (an (Kd.R_elder' (by exact Kd.R_nw HO303.out) (Kd.R_base ho0) hb) (an (Kd.R_lower (Kd.R_new' (Kd.R_new' (Kd.R_new' (Kd.R_new' ho0 (Kd.R_lt (by exact Kd.R_nw HO_274001.out))) (Kd.R_lt (by exact Kd.R_nw HO_279001.out))) (Kd.R_lt (by exact Kd.R_nw HO_288001.out))) (Kd.R_lt (by exact Kd.R_nw HO303.out))) (below_size (by exact bel0))) (an (blk_below (blk_nw BK258.out) hb) (an (blk_below (blk_nw BK259.out) hb) (an (blk_below (blk_nw BK273.out) hb) (an (blk_below (blk_nw BK278.out) hb) (an (blk_below (blk_nw BK287.out) hb) (an (blk_below (blk_nw BK312.out) hb) (an (below_step (by exact bel0) hb) (trivial))))))))))))
             clear HO_274001 HO_279001 HO_288001 HO303 BK258 BK259 BK273 BK278 BK287 BK312 HB
             obtain ⟨HO_274001, HO_279001, HO_288001, HO303, HO310, BK258, BK259, BK273, BK278, BK287, BK312, HB, -⟩ := n_
             (try clear hb); (try clear hb2); (try clear hk); (try clear hi); (try clear ho0)
             refine hK.out _ _ ⟨(blk_cell BK258.out 0).trans rfl, (blk_cell BK258.out 1).trans rfl, (blk_cell BK259.out 0).trans rfl, (blk_cell BK259.out 1).trans rfl, (blk_cell BK259.out 2).trans rfl⟩ (fun hHeld => ?_)
             clear hK K
             refine norm_ (a' := ?_) ?_ ?_
             rotate_left
             ·show Act.put _ (some 84) _ = _
              simp only [Act.put, List.setIfInBounds_toArray, List.set_cons_zero, List.set_cons_succ, i64_w, i32_w]
              rfl
             refine pure_ (i := 5) (N := some 79) (v := ?_) (a' := ?_) #[true, true, true, true, true, true, false, false, true, false, false] rfl rfl (any_of HT_.out (by kernel_rfl)) (fun _ _ _ h => h) (Or.inl ⟨by rfl, ?_⟩) ?_ ?_
             rotate_left; · intro w'; go_simp; with_reducible rfl
             rotate_left; · simp only [Act.put, List.setIfInBounds_toArray, List.set_cons_zero, List.set_cons_succ, i64_w, i32_w]; rfl
             refine pure_ (i := 6) (N := some 85) (v := ?_) (a' := ?_) #[true, true, true, true, true, true, true, false, true, false, false] rfl rfl (any_of HT_.out (by kernel_rfl)) (fun _ _ _ h => h) (Or.inl ⟨by rfl, ?_⟩) ?_ ?_
             rotate_left; · intro w'; go_simp; with_reducible rfl
             rotate_left; · simp only [Act.put, List.setIfInBounds_toArray, List.set_cons_zero, List.set_cons_succ, i64_w, i32_w]; rfl
             refine pure_ (i := 7) (N := some 86) (v := ?_) (a' := ?_) #[true, true, true, true, true, true, true, true, true, false, false] rfl rfl (any_of HT_.out (by kernel_rfl)) (fun _ _ _ h => h) (Or.inl ⟨by rfl, ?_⟩) ?_ ?_
             rotate_left; · intro w'; go_simp; with_reducible rfl
             rotate_left; · simp only [Act.put, List.setIfInBounds_toArray, List.set_cons_zero, List.set_cons_succ, i64_w, i32_w]; rfl
             exact norm_ (by simp only [putAll, Act.put, List.setIfInBounds_toArray, List.set_cons_zero, List.set_cons_succ]) (hCont (.slice Ao108 t301.length co108, v309, gb312) _ ⟨hHeld, (by exact Kd.R_nw (Kd.R_mono HO303.out (fun _ hk => ⟨hk.2, ⟨hk.1.1.1.2, ⟨hk.1.1.2, hk.1.2⟩⟩⟩))), (by exact Kd.R_nw (Kd.R_mono HO310.out (fun _ hk => ⟨hk.2, ⟨hk.1.1.1.2, ⟨hk.1.1.2, hk.1.2⟩⟩⟩))), (by exact Kd.R_nw (Kd.R_mono HO_274001.out (fun _ hk => ⟨hk.1.2, ⟨hk.2, ⟨hk.1.1.1, hk.1.1.2⟩⟩⟩))), (by exact Kd.R_nw (Kd.R_mono HO_279001.out (fun _ hk => ⟨hk.1.2, ⟨hk.2, ⟨hk.1.1.1, hk.1.1.2⟩⟩⟩))), (by exact Kd.R_nw (Kd.R_mono HO_288001.out (fun _ hk => ⟨hk.1.2, ⟨hk.2, ⟨hk.1.1.1, hk.1.1.2⟩⟩⟩))), (by exact blk_nw BK258.out), (by exact blk_nw BK259.out), (by exact blk_nw BK273.out), (by exact blk_nw BK278.out), (by exact blk_nw BK287.out), (by exact blk_nw BK312.out), GW312.out, GE312.out, NB258_312.out, NB312_258.out, NB259_312.out, NB312_259.out, NB273_312.out, NB312_273.out, NB278_312.out, NB312_278.out, NB287_312.out, NB312_287.out, (by exact bel0)⟩)
           rintro ⟨v302, v309, gb312⟩ w110 ⟨hS_, h0_, h1_, h2_, h3_, h4_, h5_, h6_, h7_, h8_, h9_, h10_, h11_, h12_, h13_, h14_, h15_, h16_, h17_, h18_, h19_, h20_, h21_, h22_, h23_⟩
           have n0_ : Aside0 (Kd.R k82 82 w110 w.heap.size (fun k_ => some k_ ≠ (v309 : Value).ownBlock ∧ some k_ ≠ (.slice Ao25 t269.length co25 : Value).ownBlock ∧ some k_ ≠ (.slice Ao36 t295.length co36 : Value).ownBlock ∧ some k_ ≠ (.slice Ao44 t283.length co44 : Value).ownBlock) v302 t301) := ⟨h0_⟩
           have n1_ : Aside0 (Kd.R k82 82 w110 w.heap.size (fun k_ => some k_ ≠ (v302 : Value).ownBlock ∧ some k_ ≠ (.slice Ao25 t269.length co25 : Value).ownBlock ∧ some k_ ≠ (.slice Ao36 t295.length co36 : Value).ownBlock ∧ some k_ ≠ (.slice Ao44 t283.length co44 : Value).ownBlock) v309 t308) := ⟨h1_⟩
           have n2_ : Aside0 (Kd.R k82 82 w110 w.heap.size (fun k_ => some k_ ≠ (v302 : Value).ownBlock ∧ some k_ ≠ (v309 : Value).ownBlock ∧ some k_ ≠ (.slice Ao36 t295.length co36 : Value).ownBlock ∧ some k_ ≠ (.slice Ao44 t283.length co44 : Value).ownBlock) (.slice Ao25 t269.length co25) t269) := ⟨h2_⟩
           have n3_ : Aside0 (Kd.R k82 82 w110 w.heap.size (fun k_ => some k_ ≠ (v302 : Value).ownBlock ∧ some k_ ≠ (v309 : Value).ownBlock ∧ some k_ ≠ (.slice Ao25 t269.length co25 : Value).ownBlock ∧ some k_ ≠ (.slice Ao44 t283.length co44 : Value).ownBlock) (.slice Ao36 t295.length co36) t295) := ⟨h3_⟩
           have n4_ : Aside0 (Kd.R k82 82 w110 w.heap.size (fun k_ => some k_ ≠ (v302 : Value).ownBlock ∧ some k_ ≠ (v309 : Value).ownBlock ∧ some k_ ≠ (.slice Ao25 t269.length co25 : Value).ownBlock ∧ some k_ ≠ (.slice Ao36 t295.length co36 : Value).ownBlock) (.slice Ao44 t283.length co44) t298) := ⟨h4_⟩
           have n5_ : Aside0 (w110.heap[gb258]? = some (.cells #[.int .i64 a0_0, .slice A0_1 l0_1.length c0_1] 37 (0, 0))) := ⟨h5_⟩
           have n6_ : Aside0 (w110.heap[gb259]? = some (.cells #[.int .i64 a1_0, .int .i64 a1_1, .int .i64 a1_2] 80 (0, 0))) := ⟨h6_⟩
           have n7_ : Aside0 (w110.heap[gb273]? = some (.cells #[.int .i64 t268, .slice Ao25 t269.length co25] 41 (0, 0))) := ⟨h7_⟩
           have n8_ : Aside0 (w110.heap[gb278]? = some (.cells #[.int .i64 t274, .slice Ao36 t295.length co36] 41 (0, 0))) := ⟨h8_⟩
           have n9_ : Aside0 (w110.heap[gb287]? = some (.cells #[.int .i64 t282, .slice Ao44 t283.length co44] 41 (0, 0))) := ⟨h9_⟩
           have n10_ : Aside0 (w110.heap[gb312]? = some (.cells #[.int .i64 0, .slice none 0 0] 41 (0, 0))) := ⟨h10_⟩
           have n11_ : Aside0 (w.heap.size ≤ gb312) := ⟨h11_⟩
           have n12_ : Aside0 (w.heap.size ≤ gb312) := ⟨h12_⟩
           have n13_ : Aside0 (gb258 ≠ gb312) := ⟨h13_⟩
           have n14_ : Aside0 (gb312 ≠ gb258) := ⟨h14_⟩
           have n15_ : Aside0 (gb259 ≠ gb312) := ⟨h15_⟩
           have n16_ : Aside0 (gb312 ≠ gb259) := ⟨h16_⟩
           have n17_ : Aside0 (gb273 ≠ gb312) := ⟨h17_⟩
           have n18_ : Aside0 (gb312 ≠ gb273) := ⟨h18_⟩
           have n19_ : Aside0 (gb278 ≠ gb312) := ⟨h19_⟩
           have n20_ : Aside0 (gb312 ≠ gb278) := ⟨h20_⟩
           have n21_ : Aside0 (gb287 ≠ gb312) := ⟨h21_⟩
           have n22_ : Aside0 (gb312 ≠ gb287) := ⟨h22_⟩
           have n23_ : Aside0 (Below w.heap.size w w110) := ⟨h23_⟩
           clear HO_274001; clear HO_279001; clear HO_288001; clear BK258; clear BK259; clear BK273; clear BK278; clear BK287; clear HB; clear h0_ h1_ h2_ h3_ h4_ h5_ h6_ h7_ h8_ h9_ h10_ h11_ h12_ h13_ h14_ h15_ h16_ h17_ h18_ h19_ h20_ h21_ h22_ h23_
           have HO303 := n0_
           have HO310 := n1_
           have HO_274001 := n2_
           have HO_279001 := n3_
           have HO_288001 := n4_
           have BK258 := n5_
           have BK259 := n6_
           have BK273 := n7_
           have BK278 := n8_
           have BK287 := n9_
           have BK312 := n10_
           have GW312 := n11_
           have GE312 := n12_
           have NB258_312 := n13_
           have NB312_258 := n14_
           have NB259_312 := n15_
           have NB312_259 := n16_
           have NB273_312 := n17_
           have NB312_273 := n18_
           have NB278_312 := n19_
           have NB312_278 := n20_
           have NB287_312 := n21_
           have NB312_287 := n22_
           have HB := n23_
           clear n0_ n1_ n2_ n3_ n4_ n5_ n6_ n7_ n8_ n9_ n10_ n11_ n12_ n13_ n14_ n15_ n16_ n17_ n18_ n19_ n20_ n21_ n22_ n23_
           have hHeld : w110.cell? ⟨gb258, 0, none⟩ = some (.int .i64 a0_0) ∧ w110.cell? ⟨gb258, 1, none⟩ = some (.slice A0_1 l0_1.length c0_1) ∧ w110.cell? ⟨gb259, 0, none⟩ = some (.int .i64 a1_0) ∧ w110.cell? ⟨gb259, 1, none⟩ = some (.int .i64 a1_1) ∧ w110.cell? ⟨gb259, 2, none⟩ = some (.int .i64 a1_2) := hS_
           obtain ⟨Ao112, co112, eo112⟩ := Kd.R_slice HO310.out
           (first | subst eo112 | (injection eo112 with f1_ f2_ f3_; have f4_ := f1_.symm; have f5_ := f3_.symm; clear f1_ f2_ f3_; subst f4_; subst f5_))
           refine norm_ (a' := ?_) ?_ ?_
           rotate_left; · simp only [putAll, Act.put, List.setIfInBounds_toArray, List.set_cons_zero, List.set_cons_succ]; rfl
           refine one_ (i := 9) (N := none) #[true, true, true, true, true, true, true, true, true, true, false] rfl rfl (one_of HT_.out (by kernel_rfl)) (by decide) (fun K hK => ?_)
           have hs111 : w110.cell? ⟨gb312, 0, none⟩ = some (.int .i64 0) := (blk_cell BK312.out 0).trans rfl
           have hfs111 := blk_frozen BK312.out 0
           have hns111_0 := NB258_312.out; have hns111_1 := NB259_312.out; have hns111_2 := NB273_312.out; have hns111_3 := NB278_312.out; have hns111_4 := NB287_312.out; have hms111_0 := NB312_258.out; have hms111_1 := NB312_259.out; have hms111_2 := NB312_273.out; have hms111_3 := NB312_278.out; have hms111_4 := NB312_287.out
           have hs113 : w110.cell? ⟨gb312, 1, none⟩ = some (.slice none 0 0) := (blk_cell BK312.out 1).trans rfl
           have hfs113 := blk_frozen BK312.out 1
           have hns113_0 := NB258_312.out; have hns113_1 := NB259_312.out; have hns113_2 := NB273_312.out; have hns113_3 := NB278_312.out; have hns113_4 := NB287_312.out; have hms113_0 := NB312_258.out; have hms113_1 := NB312_259.out; have hms113_2 := NB312_273.out; have hms113_3 := NB312_278.out; have hms113_4 := NB312_287.out
           refine skip_ (w1 := ?_) (by rfl) rfl ?_ ?_
           rotate_left
           ·go_simp
            rfl
           refine hK.out _ _ ⟨((cell_far (p := ⟨gb312, _, none⟩) NB258_312.out _).trans (((cell_far (p := ⟨gb312, _, none⟩) NB258_312.out _).trans (hHeld.1)))), ((cell_far (p := ⟨gb312, _, none⟩) NB258_312.out _).trans (((cell_far (p := ⟨gb312, _, none⟩) NB258_312.out _).trans (hHeld.2.1)))), ((cell_far (p := ⟨gb312, _, none⟩) NB259_312.out _).trans (((cell_far (p := ⟨gb312, _, none⟩) NB259_312.out _).trans (hHeld.2.2.1)))), ((cell_far (p := ⟨gb312, _, none⟩) NB259_312.out _).trans (((cell_far (p := ⟨gb312, _, none⟩) NB259_312.out _).trans (hHeld.2.2.2.1)))), ((cell_far (p := ⟨gb312, _, none⟩) NB259_312.out _).trans (((cell_far (p := ⟨gb312, _, none⟩) NB259_312.out _).trans (hHeld.2.2.2.2))))⟩ (fun hHeld => ?_)
           clear hK K
           refine pure_ (i := 10) (N := some 15) (v := ?_) (a' := ?_) #[true, true, true, true, true, true, true, true, true, true, true] rfl rfl (any_of HT_.out (by kernel_rfl)) (fun _ _ _ h => h) (Or.inl ⟨by rfl, ?_⟩) ?_ ?_
           rotate_left; · intro w'; go_simp; with_reducible rfl
           rotate_left; · simp only [Act.put, List.setIfInBounds_toArray, List.set_cons_zero, List.set_cons_succ, i64_w, i32_w]; rfl
           refine done_ (done_of HT_.out (by kernel_rfl)) ?_
           go_upto_region 25 with (fail)
           go_cut [95] (fun v95 wc => ∃ (kq : Nat) (x95_102 : Bool), v95 = .bool x95_102 ∧ Aside0 (laws_FnExactHeard.j2 kq t297 x95_102 t282 t298 = some r) ∧ Aside0 (kq ≤ kj66) ∧ Aside0 (Kd.R k82 82 wc w.heap.size (fun k_ => some k_ ≠ ((.slice Ao36 t295.length co36) : Value).ownBlock ∧ some k_ ≠ ((.slice Ao44 t283.length co44) : Value).ownBlock ∧ some k_ ≠ ((.slice Ao112 t308.length co112) : Value).ownBlock) (.slice Ao25 t269.length co25) t269) ∧ Aside0 (Kd.R k82 82 wc w.heap.size (fun k_ => some k_ ≠ ((.slice Ao25 t269.length co25) : Value).ownBlock ∧ some k_ ≠ ((.slice Ao44 t283.length co44) : Value).ownBlock ∧ some k_ ≠ ((.slice Ao112 t308.length co112) : Value).ownBlock) (.slice Ao36 t295.length co36) t295) ∧ Aside0 (Kd.R k82 82 wc w.heap.size (fun k_ => some k_ ≠ ((.slice Ao25 t269.length co25) : Value).ownBlock ∧ some k_ ≠ ((.slice Ao36 t295.length co36) : Value).ownBlock ∧ some k_ ≠ ((.slice Ao112 t308.length co112) : Value).ownBlock) (.slice Ao44 t283.length co44) t298) ∧ Aside0 (Kd.R k82 82 wc w.heap.size (fun k_ => some k_ ≠ ((.slice Ao25 t269.length co25) : Value).ownBlock ∧ some k_ ≠ ((.slice Ao36 t295.length co36) : Value).ownBlock ∧ some k_ ≠ ((.slice Ao44 t283.length co44) : Value).ownBlock) (.slice Ao112 t308.length co112) t308) ∧ Aside0 (wc.heap[gb258]? = some (.cells #[.int .i64 a0_0, (.slice A0_1 l0_1.length c0_1)] 37 (0, 0))) ∧ Aside0 (wc.heap[gb259]? = some (.cells #[.int .i64 a1_0, .int .i64 a1_1, .int .i64 a1_2] 80 (0, 0))) ∧ Aside0 (wc.heap[gb273]? = some (.cells #[.int .i64 t268, (.slice Ao25 t269.length co25)] 41 (0, 0))) ∧ Aside0 (wc.heap[gb278]? = some (.cells #[.int .i64 t274, (.slice Ao36 t295.length co36)] 41 (0, 0))) ∧ Aside0 (wc.heap[gb287]? = some (.cells #[.int .i64 t282, (.slice Ao44 t283.length co44)] 41 (0, 0))) ∧ Aside0 (wc.heap[gb312]? = some (.cells #[.int .i64 t307, (.slice Ao112 t308.length co112)] 41 (0, 0))) ∧ Aside0 (Below w.heap.size w wc))
           case first =>
            have H := HC103.out; clear HC103; replace H := Option.bind_eq_some_iff.mp H; obtain ⟨t313, A1140, H⟩ := H; have A114 := Aside0.mk A1140; clear A1140; have hnb115 := NB312_258.out; have hnc115 := NB258_312.out; have hnb116 := NB312_259.out; have hnc116 := NB259_312.out; have hnb117 := NB312_273.out; have hnc117 := NB273_312.out; have hnb118 := NB312_278.out; have hnc118 := NB278_312.out; have hnb119 := NB312_287.out; have hnc119 := NB287_312.out; obtain ⟨hcz120_0, hcz120_1⟩ := blkz2 BK312.out; have hfz120_0 := blkf BK312.out; have hnb121 := NB273_258.out; have hnc121 := NB258_273.out; have hnb122 := NB273_259.out; have hnc122 := NB259_273.out; have hnb123 := NB273_278.out; have hnc123 := NB278_273.out; have hnb124 := NB273_287.out; have hnc124 := NB287_273.out; obtain ⟨hcz125_0, hcz125_1⟩ := blkz2 BK273.out; have hfz125_0 := blkf BK273.out
            replace H := Aside0.mk H
            go_wp2_with (first | ((with_reducible refine gate_callee (f := 27) rfl ?_); refine goesL_ (some 89) rfl rfl Try.func27 (by kernel_rfl) rfl #[.agg #[.int .i64 t307, .slice Ao112 t308.length co112], .agg #[.int .i64 t268, .slice Ao25 t269.length co25]] rfl (by (try simp only [List.map_toArray, List.map_cons, List.map_nil]); first | done | rfl | (simp only [List.length_drop, List.length_take]; rfl)) ?_; (with_reducible refine (laws_eqTable.calls kj66 t307 _ _ t308 t268 _ _ t269 t313 _ ?side1 ?side2 ?side3 ?side4 A114.out).mono ?_); (case side1 => refine (Kd.R_reads' (e := 82) (base := w.heap.size) (ok := fun k_ => (some k_ ≠ (v302 : Value).ownBlock ∧ (some k_ ≠ (.slice Ao25 t269.length co25 : Value).ownBlock ∧ (some k_ ≠ (.slice Ao36 t295.length co36 : Value).ownBlock ∧ some k_ ≠ (.slice Ao44 t283.length co44 : Value).ownBlock)))) (n := t308.length) (c := co112) ?_).2.2; exact (by exact (Kd.R_farN HO310.out BK312.out))); (case side2 => exact (Kd.R_reads' HO310.out).2.1); (case side3 => refine (Kd.R_reads' (e := 82) (base := w.heap.size) (ok := fun k_ => (some k_ ≠ (v302 : Value).ownBlock ∧ (some k_ ≠ (.slice Ao112 t308.length co112 : Value).ownBlock ∧ (some k_ ≠ (.slice Ao36 t295.length co36 : Value).ownBlock ∧ some k_ ≠ (.slice Ao44 t283.length co44 : Value).ownBlock)))) (n := t269.length) (c := co25) ?_).2.2; exact (by exact (Kd.R_farN HO_274001.out BK312.out))); (case side4 => exact (Kd.R_reads' HO_274001.out).2.1); rintro e w126 ⟨rfl, hb⟩; refine ⟨_, rfl, ?_⟩; have n_ := an (Kd.R_below (by exact (Kd.R_farN HO_274001.out BK312.out)) hb) (an (Kd.R_below (by exact (Kd.R_farN HO_279001.out BK312.out)) hb) (an (Kd.R_below (by exact (Kd.R_farN HO_288001.out BK312.out)) hb) (an (Kd.R_below (by exact (Kd.R_farN HO303.out BK312.out)) hb) (an (Kd.R_below (by exact (Kd.R_farN HO310.out BK312.out)) hb) (an (blk_below (blk_kb BK258.out NB258_312.out) hb) (an (blk_below (blk_kb BK259.out NB259_312.out) hb) (an (blk_below (blk_kb BK273.out NB273_312.out) hb) (an (blk_below (blk_kb BK278.out NB278_312.out) hb) (an (blk_below (blk_kb BK287.out NB287_312.out) hb) (an (blk_below (g := gb312) (o := .cells #[.int .i64 t307, .slice Ao112 t308.length co112] 41 (0, 0)) (by (with_reducible repeat (first | refine blk_drewN ?_ _ | refine blk_drew ?_ | refine blk_alloc ?_ _)); exact blk_fill2 BK312.out) hb) (an (below_step (by exact bel0) hb) (trivial)))))))))))); clear HO_274001 HO_279001 HO_288001 HO303 HO310 BK258 BK259 BK273 BK278 BK287 BK312 HB; obtain ⟨HO_274001, HO_279001, HO_288001, HO303, HO310, BK258, BK259, BK273, BK278, BK287, BK312, HB, -⟩ := n_; (try clear hb); (try clear hb2); (try clear hk); (try clear hi); refine Stop.out ?_))
            refine Stop.mk ?_
            replace H := H.out
            by_cases c127 : t313 = true
            ·subst c127; rw [if_pos rfl] at H
             have H' := Aside0.mk H
             clear H
             go_wp2
             go_meet
             case rel => exact ⟨_, ((t311 != t272)), (by first | rfl | (simp; done) | (simp [*]; done)), H', ⟨by have := HJ15.out; have := HJ66.out; first | omega | exact Nat.le_refl _⟩, ⟨by (try simp only [hl279001_66]); exact Kd.R_nw (Kd.R_mono HO_274001.out (fun _ hk => ⟨hk.2.2.1, ⟨hk.2.2.2, hk.2.1⟩⟩))⟩, ⟨by (try simp only [hl279001_66]); exact Kd.R_nw (Kd.R_mono HO_279001.out (fun _ hk => ⟨hk.2.2.1, ⟨hk.2.2.2, hk.2.1⟩⟩))⟩, ⟨by (try simp only [hl279001_66]); exact Kd.R_nw (Kd.R_mono HO_288001.out (fun _ hk => ⟨hk.2.2.1, ⟨hk.2.2.2, hk.2.1⟩⟩))⟩, ⟨by (try simp only [hl279001_66]); exact Kd.R_nw (Kd.R_mono HO310.out (fun _ hk => ⟨hk.2.1, ⟨hk.2.2.1, hk.2.2.2⟩⟩))⟩, ⟨by (try simp only [hl279001_66]); exact blk_nw BK258.out⟩, ⟨by (try simp only [hl279001_66]); exact blk_nw BK259.out⟩, ⟨by (try simp only [hl279001_66]); exact blk_nw BK273.out⟩, ⟨by (try simp only [hl279001_66]); exact blk_nw BK278.out⟩, ⟨by (try simp only [hl279001_66]); exact blk_nw BK287.out⟩, ⟨by (try simp only [hl279001_66]); exact blk_nw BK312.out⟩, ⟨by exact bel0⟩⟩
            ·replace c127 := Bool.eq_false_iff.mpr c127
             subst c127
             rw [if_neg (show ¬ (false = true) by decide)] at H
             have H' := Aside0.mk H
             clear H
             go_wp2
             go_meet
             case rel => exact ⟨_, (true), (by first | rfl | (simp; done) | (simp [*]; done)), H', ⟨by have := HJ15.out; have := HJ66.out; first | omega | exact Nat.le_refl _⟩, ⟨by (try simp only [hl279001_66]); exact Kd.R_nw (Kd.R_mono HO_274001.out (fun _ hk => ⟨hk.2.2.1, ⟨hk.2.2.2, hk.2.1⟩⟩))⟩, ⟨by (try simp only [hl279001_66]); exact Kd.R_nw (Kd.R_mono HO_279001.out (fun _ hk => ⟨hk.2.2.1, ⟨hk.2.2.2, hk.2.1⟩⟩))⟩, ⟨by (try simp only [hl279001_66]); exact Kd.R_nw (Kd.R_mono HO_288001.out (fun _ hk => ⟨hk.2.2.1, ⟨hk.2.2.2, hk.2.1⟩⟩))⟩, ⟨by (try simp only [hl279001_66]); exact Kd.R_nw (Kd.R_mono HO310.out (fun _ hk => ⟨hk.2.1, ⟨hk.2.2.1, hk.2.2.2⟩⟩))⟩, ⟨by (try simp only [hl279001_66]); exact blk_nw BK258.out⟩, ⟨by (try simp only [hl279001_66]); exact blk_nw BK259.out⟩, ⟨by (try simp only [hl279001_66]); exact blk_nw BK273.out⟩, ⟨by (try simp only [hl279001_66]); exact blk_nw BK278.out⟩, ⟨by (try simp only [hl279001_66]); exact blk_nw BK287.out⟩, ⟨by (try simp only [hl279001_66]); exact blk_nw BK312.out⟩, ⟨by exact bel0⟩⟩
           case rest =>
            clear HC103; try clear c1; try clear c2; try clear p2; try clear c5; try clear c9; try clear c11; try clear c12; try clear c25; try clear c27; try clear c28; try clear c29; try clear c52; try clear c53; try clear c92; try clear c93; try clear c98; try clear c98b0; try clear c99; try clear c99b0; try clear c99b1; try clear c115; try clear c116; try clear c117; try clear c118; try clear c119; try clear c121; try clear c122; try clear c123; try clear c124; try clear c127; try clear hcz120_0; try clear hcz120_1; try clear hcz125_0; try clear hcz125_1; try clear hcz94_0; try clear hcz94_1; try clear hcz96_0; try clear hcz96_1; try clear hfz120_0; try clear hfz120_1; try clear hfz125_0; try clear hfz125_1; try clear hfz94_0; try clear hfz94_1; try clear hfz96_0; try clear hfz96_1
            obtain ⟨kq, x95_102, rfl, HA, HJ102, HO_274001, HO_279001, HO_288001, HO_313001, BK258, BK259, BK273, BK278, BK287, BK312, HB⟩ := hcut
            have hl288001_102 := (Kd.R_reads' HO_288001.out).1
            rw [hl288001_102] at HO_288001
            (try simp only [hl288001_102])
            (try simp only [hl288001_102] at BK258)
            (try simp only [hl288001_102] at BK259)
            (try simp only [hl288001_102] at BK273)
            (try simp only [hl288001_102] at BK278)
            (try simp only [hl288001_102] at BK287)
            (try simp only [hl288001_102] at BK312)
            (try simp only [hl288001_102] at HO_274001)
            (try simp only [hl288001_102] at HO_279001)
            (try simp only [hl288001_102] at HO_313001)
            cases kq with
            | zero => exact absurd HA.out (by simp [laws_FnExactHeard.j2])
            | succ kj102 =>
             have H := HA.out; clear HA
             simp only [laws_FnExactHeard.j2] at H
             by_cases c128 : x95_102 = true
             ·subst c128; rw [if_pos rfl] at H
              obtain rfl := Option.some.inj H
              go_wp2
              go_ret
              exact ⟨by first | rfl | (simp [errW_none, errW_some] <;> rfl) | (simp [*, errW_none, errW_some] <;> rfl), by exact bel0⟩
             ·replace c128 := Bool.eq_false_iff.mpr c128
              subst c128
              rw [if_neg (show ¬ (false = true) by decide)] at H
              replace H := Option.bind_eq_some_iff.mp H; obtain ⟨t314, A1290, H⟩ := H; have A129 := Aside0.mk A1290; clear A1290; have hnb130 := NB287_258.out; have hnc130 := NB258_287.out; have hnb131 := NB287_259.out; have hnc131 := NB259_287.out; have hnb132 := NB287_273.out; have hnc132 := NB273_287.out; have hnb133 := NB287_278.out; have hnc133 := NB278_287.out; have hnb134 := NB287_312.out; have hnc134 := NB312_287.out; obtain ⟨hcz135_0, hcz135_1⟩ := blkz2 BK287.out; have hfz135_0 := blkf BK287.out
              replace H := Aside0.mk H
              go_wp2_with (first | ((with_reducible refine gate_callee (f := 29) rfl ?_); refine goesL_ (some 98) rfl rfl Try.func29 (by kernel_rfl) rfl #[.agg #[.int .i64 t282, .slice Ao44 t298.length co44], .int .i64 1] rfl (by (try simp only [List.map_toArray, List.map_cons, List.map_nil]); first | done | rfl | (simp only [List.length_drop, List.length_take]; rfl)) ?_; (with_reducible refine (laws_heldTable.calls kj102 t282 _ _ t298 1 t314 _ ?side1 ?side2 A129.out).mono ?_); (case side1 => repeat (first | exact (Kd.R_reads' HO_288001.out).2.2 | (with_reducible refine Kd.C_alloc ?_ _) | (with_reducible refine Kd.C_drewN ?_ _) | (with_reducible refine Kd.C_drew ?_))); (case side2 => exact (Kd.R_reads' HO_288001.out).2.1); rintro e w136 ⟨rfl, hb⟩; refine ⟨_, rfl, ?_⟩; have n_ := an (Kd.R_below (by exact Kd.R_nw HO_274001.out) hb) (an (Kd.R_below (by exact Kd.R_nw HO_279001.out) hb) (an (Kd.R_below (by exact Kd.R_nw HO_288001.out) hb) (an (Kd.R_below (by exact Kd.R_nw HO_313001.out) hb) (an (blk_below (blk_nw BK258.out) hb) (an (blk_below (blk_nw BK259.out) hb) (an (blk_below (blk_nw BK273.out) hb) (an (blk_below (blk_nw BK278.out) hb) (an (blk_below (blk_nw BK287.out) hb) (an (blk_below (blk_nw BK312.out) hb) (an (below_step (by exact bel0) hb) (trivial))))))))))); clear HO_274001 HO_279001 HO_288001 HO_313001 BK258 BK259 BK273 BK278 BK287 BK312 HB; obtain ⟨HO_274001, HO_279001, HO_288001, HO_313001, BK258, BK259, BK273, BK278, BK287, BK312, HB, -⟩ := n_; (try clear hb); (try clear hb2); (try clear hk); (try clear hi); refine Stop.out ?_))
              refine Stop.mk ?_
              replace H := H.out
              by_cases c137 : t314 < 0
              ·rw [if_pos c137] at H; have c137b0 : decide (t314 < 0) = true := decide_eq_true c137; clear c137; (try simp only [c137b0])
               obtain rfl := Option.some.inj H
               go_wp2
               go_ret
               exact ⟨by first | rfl | (simp [errW_none, errW_some] <;> rfl) | (simp [*, errW_none, errW_some] <;> rfl), by exact bel0⟩
              ·rw [if_neg c137] at H; have c137b0 : decide (t314 < 0) = false := decide_eq_false c137; clear c137; (try simp only [c137b0])
               by_cases c138 : t314 = t297
               ·rw [if_pos c138] at H; have c138b0 : (t314 == t297) = true := beq_iff_eq.mpr c138; have c138b1 : (t314 != t297) = false := bne_eq_false_iff_eq.mpr c138; clear c138
                obtain rfl := Option.some.inj H
                go_wp2
                go_ret
                exact ⟨by first | rfl | (simp [errW_none, errW_some] <;> rfl) | (simp [*, errW_none, errW_some] <;> rfl), by exact bel0⟩
               ·rw [if_neg c138] at H; have c138b0 : (t314 == t297) = false := beq_eq_false_iff_ne.mpr c138; have c138b1 : (t314 != t297) = true := bne_iff_ne.mpr c138
                obtain rfl := Option.some.inj H
                go_wp2
                go_ret
                exact ⟨by first | rfl | (simp [errW_none, errW_some] <;> rfl) | (simp [*, errW_none, errW_some] <;> rfl), by exact bel0⟩
          ·rw [if_neg c99] at H; have c99b0 : (t299 == t297) = false := beq_eq_false_iff_ne.mpr c99; have c99b1 : (t299 != t297) = true := bne_iff_ne.mpr c99
           obtain rfl := Option.some.inj H
           go_wp2
           go_ret
           exact ⟨by first | rfl | (simp [errW_none, errW_some] <;> rfl) | (simp [*, errW_none, errW_some] <;> rfl), by exact bel0⟩
     ·replace c65 := Bool.eq_false_iff.mpr c65
      subst c65
      rw [if_neg (show ¬ (false = true) by decide)] at H
      obtain rfl := Option.some.inj H
      go_wp2
      go_ret
      exact ⟨by first | rfl | (simp [errW_none, errW_some] <;> rfl) | (simp [*, errW_none, errW_some] <;> rfl), by exact bel0⟩

end Go.Proofs.Ytigoajblljolcaa.XFnExactHeard
