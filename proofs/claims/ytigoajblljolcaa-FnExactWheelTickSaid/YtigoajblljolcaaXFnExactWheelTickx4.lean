-- Written by this session's own program (xprint.py) over the kit's print.
import Derived.Test.YtigoajblljolcaaXFnExactWheelTickx0
import Derived.Test.YtigoajblljolcaaXFnExactWheelTickx3
namespace Go.Proofs.Ytigoajblljolcaa.XFnExactWheelTick
open Go.RowKit Go.Proofs.YtigoajblljolcaaW.PrintWords Go.Proofs.YtigoajblljolcaaW.PrintLast Go.Proofs.YtigoajblljolcaaW.PrintMore
attribute [local go_sem] max2_int min2_int max_two min_two max_three min_three max_four min_four   -- for this text's walks alone
set_option linter.unusedVariables false
set_option linter.unusedSimpArgs false

/-! ### spec_l7own: function 89 -/
def spec_l7own.f (a0_0 : Int) (l0_1 : List (S133)) : Option (Int × (List (S133))) := (some (([] : List (S133)) : List (S133))).bind fun y156 => (if y156.length + l0_1.length < 8796093022208 then (some (a0_0, (y156 ++ l0_1))) else (none))
def spec_l7own.T1 : Bool × List (List Nat × List Nat) := (true, [([], []), ([0], [0]), ([], []), ([], []), ([3], [3]), ([2, 4], [2, 4]), ([1, 5], [1, 5]), ([6, 5, 0, 1, 2, 3, 4, 5, 6], [6])])
def spec_l7own.B1 : List Nat := [0, 1, 0, 0, 8, 28, 63, 127]
theorem spec_l7own.tab1 : rtab .any (opsOf Try.f89 1) = spec_l7own.T1 := by kernel_rfl
theorem spec_l7own.bits1 : waitsOk spec_l7own.T1.2 spec_l7own.B1 = true := by kernel_rfl
set_option maxHeartbeats 8000000 in
set_option maxRecDepth 100000 in
theorem spec_l7own.calls (a0_0 : Int) (A0_1 : Option Addr) (c0_1 : Nat) (l0_1 : List (S133)) (r1 : Int) (r2 : List (S133)) (w : World) (hr0_1 : Kd.C k133 w A0_1 l0_1.length l0_1) (hc0_1 : l0_1.length ≤ c0_1) (h : spec_l7own.f a0_0 l0_1 = some (r1, r2)) :
  Calls Try.prog 89 #[.agg #[.int .i64 a0_0, .slice A0_1 l0_1.length c0_1]] w fun e w' => ∃ v1_ : Value, e = .returned (.agg #[.int .i64 r1, v1_]) ∧ Kd.R k133 133 w' w.heap.size (fun _ => True) v1_ r2 ∧ Below w.heap.size w w' := by
 have hu54 := Try.underlying54
 have HR0_1 := Aside0.mk hr0_1; have HC0_1 := Aside0.mk hc0_1; clear hr0_1 hc0_1
 have HB := Aside0.mk (Below.refl w.heap.size w)
 have H : ((some (([] : List (S133)) : List (S133))).bind fun y156 => (if y156.length + l0_1.length < 8796093022208 then (some (a0_0, (y156 ++ l0_1))) else (none))) = some (r1, r2) := h
 clear h
 obtain ⟨y156, hy156⟩ : ∃ y_ : List (S133), y_ = (([] : List (S133))) := ⟨_, rfl⟩
 replace H : (if y156.length + l0_1.length < 8796093022208 then (some (a0_0, (y156 ++ l0_1))) else (none)) = some (r1, r2) := by first | (rw [hy156]; with_reducible exact H) | (have H2_ := (Option.bind_some _ _).symm.trans H; rw [hy156]; with_reducible exact H2_) | (have H2_ := (Option.bind_some _ _).symm.trans H; with_reducible exact H2_) | with_reducible exact H | (rw [hy156]; exact H) | exact H
 have Ny156 := Aside0.mk hy156; clear hy156
 by_cases c2 : y156.length + l0_1.length < 8796093022208
 ·rw [if_pos c2] at H; have LMc2 := Aside0.mk c2; clear c2
  obtain ⟨y159, hy159⟩ : ∃ y_ : List (S133), y_ = (y156 ++ l0_1) := ⟨_, rfl⟩
  replace H : (some (a0_0, y159)) = some (r1, r2) := by first | (rw [hy159]; with_reducible exact H) | (have H2_ := (Option.bind_some _ _).symm.trans H; rw [hy159]; with_reducible exact H2_) | (have H2_ := (Option.bind_some _ _).symm.trans H; with_reducible exact H2_) | with_reducible exact H | (rw [hy159]; exact H) | exact H
  have Ny159 := Aside0.mk hy159; clear hy159; simp only [Option.some.injEq, Prod.mk.injEq] at H; obtain ⟨rfl, rfl⟩ := H; go_enter Try.func89, Try.ntmps89
  try go_wp2_with (first | ((with_reducible refine gate_dst (N := 1) rfl ?_); refine box_event ?hg (N := 1) ?hd (cs := #[.int .i64 a0_0, .slice A0_1 l0_1.length c0_1]) (t := 54) ?hr ?_; (case hd => rfl); (case hg => rfl); (case hr => first | (go_simp; done) | (go_simp; rfl)); intro gb154 hg w3 hbox hb; have n_ := an (below_step (by exact bel0) hb) (an (hbox) (an ((by rw [hg]; exact (below_size (by exact bel0)) : w.heap.size ≤ gb154)) (an ((by rw [hg]; exact (below_size (by exact bel0)) : w.heap.size ≤ gb154)) (trivial)))); clear HB; obtain ⟨HB, BK154, GW154, GE154, -⟩ := n_; clear hb hbox hg) | ((with_reducible refine gate_dst (N := 2) rfl ?_); refine box_event ?hg (N := 2) ?hd (cs := #[.int .i64 0, .slice none 0 0]) (t := 54) ?hr ?_; (case hd => rfl); (case hg => rfl); (case hr => first | (go_simp; done) | (go_simp; rfl)); intro gb155 hg w4 hbox hb; have n_ := an (blk_below (blk_nw BK154.out) hb) (an (below_step (by exact bel0) hb) (an (hbox) (an ((by rw [hg]; exact (below_size (by exact bel0)) : w.heap.size ≤ gb155)) (an ((by rw [hg]; exact (below_size (by exact bel0)) : w.heap.size ≤ gb155)) (an ((by rw [hg]; exact Nat.ne_of_lt (blk_lt (blk_nw BK154.out)) : gb154 ≠ gb155)) (an ((by rw [hg]; exact Nat.ne_of_gt (blk_lt (blk_nw BK154.out)) : gb155 ≠ gb154)) (trivial))))))); clear BK154 HB; obtain ⟨BK154, HB, BK155, GW155, GE155, NB154_155, NB155_154, -⟩ := n_; clear hb hbox hg))
  have n_ := an (blk_drew BK154.out) (an (blk_drew BK155.out) (an (below_drew1 HB.out) (trivial)))
  clear BK154 BK155 HB
  obtain ⟨BK154, BK155, HB, -⟩ := n_
  refine start_ (n := 8) (S := fun w' => w'.cell? ⟨gb154, 0, none⟩ = some (.int .i64 a0_0) ∧ w'.cell? ⟨gb154, 1, none⟩ = some (.slice A0_1 l0_1.length c0_1)) (ds := []) #[false, false, false, false, false, false, false, false] (by kernel_rfl) rfl rfl ⟨(blk_cell BK154.out 0).trans rfl, (blk_cell BK154.out 1).trans rfl⟩ (fun hHeld => ?_); refine with_tabW spec_l7own.tab1 spec_l7own.bits1 (fun HT_ HW_ => ?_)
  generalize w4.drew = w5 at BK154 BK155 HB hHeld ⊢
  refine pure_ (i := 0) (N := some 3) (v := ?_) (a' := ?_) #[true, false, false, false, false, false, false, false] rfl rfl (any_of HT_.out (by kernel_rfl)) (fun _ _ _ h => h) (Or.inl ⟨by rfl, ?_⟩) ?_ ?_
  rotate_left
  ·intro w'
   go_simp
   with_reducible rfl
  rotate_left
  ·simp only [Act.put, List.setIfInBounds_toArray, List.set_cons_zero, List.set_cons_succ, i64_w, i32_w]
   rfl
  refine pure_ (i := 3) (N := some 6) (v := ?_) (a' := ?_) #[true, false, false, true, false, false, false, false] rfl rfl (any_of HT_.out (by kernel_rfl)) (fun _ _ _ h => h) (Or.inl ⟨by rfl, ?_⟩) ?_ ?_
  rotate_left
  ·intro w'
   go_simp
   with_reducible rfl
  rotate_left
  ·simp only [Act.put, List.setIfInBounds_toArray, List.set_cons_zero, List.set_cons_succ, i64_w, i32_w]
   rfl
  refine take_ (i := 1) (N := some 4) (v := ?_) (a' := ?_) #[true, true, false, true, false, false, false, false] rfl rfl (take_ofW HT_.out HW_.out (by kernel_rfl)) (fun _ _ _ h => h) (Or.inl ⟨by rfl, ?_⟩) hHeld ?_ ?_
  rotate_left
  ·rintro w' ⟨s0, s1⟩
   go_simp
   with_reducible rfl
  rotate_left
  ·simp only [Act.put, List.setIfInBounds_toArray, List.set_cons_zero, List.set_cons_succ, i64_w, i32_w]
   rfl
  refine take_ (i := 4) (N := some 7) (v := ?_) (a' := ?_) #[true, true, false, true, true, false, false, false] rfl rfl (take_ofW HT_.out HW_.out (by kernel_rfl)) (fun _ _ _ h => h) (Or.inl ⟨by rfl, ?_⟩) hHeld ?_ ?_
  rotate_left
  ·rintro w' ⟨s0, s1⟩
   go_simp
   with_reducible rfl
  rotate_left
  ·simp only [Act.put, List.setIfInBounds_toArray, List.set_cons_zero, List.set_cons_succ, i64_w, i32_w]
   rfl
  refine one_ (i := 2) (N := some 5) #[true, true, true, true, true, false, false, false] rfl rfl (one_of HT_.out (by kernel_rfl)) (by decide) (fun K hK => ?_)
  refine Kd.R_lit_step k133 _ 133 ?hg (N := 5) ?hd (xs := ([] : List (S133))) (inner := []) (ok := fun _ => True) (okp := fun _ => True) ?hr ?hp (fun _ hk => hk) trivial (Below.refl _ _) (Nat.le_refl _) (by simp) ?_; (case hd => rfl); (case hg => rfl); (case hr => first | (go_simp; done) | (go_simp; rfl)); (case hp => exact (Reps.none _ _))
  intro v157 w6 ho7 hb hg_ hnew_
  clear hg_ hnew_
  (first | rw [← Ny156.out] at ho7 | (simp only [Int.reduceToNat] at ho7; rw [← Ny156.out] at ho7))
  have n_ := an (Kd.R_lower ho7 (below_size (by exact bel0))) (an (blk_below (blk_nw BK154.out) hb) (an (blk_below (blk_nw BK155.out) hb) (an (below_step (by exact bel0) hb) (trivial))))
  clear BK154 BK155 HB
  obtain ⟨HO158, BK154, BK155, HB, -⟩ := n_
  clear hb ho7
  refine hK.out _ _ ⟨(blk_cell BK154.out 0).trans rfl, (blk_cell BK154.out 1).trans rfl⟩ (fun hHeld => ?_)
  clear hK K
  refine norm_ (a' := ?_) ?_ ?_
  rotate_left
  ·show Act.put _ (some 5) _ = _
   simp only [Act.put, List.setIfInBounds_toArray, List.set_cons_zero, List.set_cons_succ, i64_w, i32_w]
   rfl
  refine one_ (i := 5) (N := some 8) #[true, true, true, true, true, true, false, false] rfl rfl (one_of HT_.out (by kernel_rfl)) (by decide) (fun K hK => ?_)
  refine Kd.R_append_rows_step k133 (w0 := w) w.heap.size (by rfl) (.tmp 5) (.tmp 7) 52 133 (.agg #[(.int .i64 0), (.int .i64 0)]) 16 rfl Try.underlying52 info133 rfl (by decide) (by omega) v157 y156 l0_1 _ _ _ (fun _ => True) (fun _ => False) rfl rfl ?aO ?aR (fun _ _ h => h) (fun _ h => h.elim) ?aF ?aB ?aS ?aL ?_
  (case aR => repeat (first | exact (Kd.C_below HR0_1.out HB.out) | (with_reducible refine Kd.C_alloc ?_ _) | (with_reducible refine Kd.C_drewN ?_ _) | (with_reducible refine Kd.C_drew ?_)))
  (case aB => exact (by exact bel0))
  (case aF => exact (fun _ _ => trivial))
  (case aO => exact (by exact Kd.R_nw HO158.out))
  (case aS => exact (below_size (by exact bel0)))
  (case aL => have := LMc2.out; omega)
  intro v160 w8 ho hb hg hat
  rw [← Ny159.out] at ho
  have n_ := an (blk_grown (blk_nw BK154.out) hg (Kd.R_ne HO158.out BK154.out (by decide))) (an (blk_grown (blk_nw BK155.out) hg (Kd.R_ne HO158.out BK155.out (by decide))) (an (hb) (an (ho) (trivial))))
  clear BK154 BK155 HB HO158
  obtain ⟨BK154, BK155, HB, HO161, -⟩ := n_
  clear ho hb hg hat
  obtain ⟨Ao9, co9, eo9⟩ := Kd.R_slice HO161.out
  (first | subst eo9 | (injection eo9 with f1_ f2_ f3_; have f4_ := f1_.symm; have f5_ := f3_.symm; clear f1_ f2_ f3_; subst f4_; subst f5_))
  refine hK.out _ _ ⟨(blk_cell BK154.out 0).trans rfl, (blk_cell BK154.out 1).trans rfl⟩ (fun hHeld => ?_)
  clear hK K
  refine norm_ (a' := ?_) ?_ ?_
  rotate_left
  ·show Act.put _ (some 8) _ = _
   simp only [Act.put, List.setIfInBounds_toArray, List.set_cons_zero, List.set_cons_succ, i64_w, i32_w]
   rfl
  refine pure_ (i := 6) (N := some 9) (v := ?_) (a' := ?_) #[true, true, true, true, true, true, true, false] rfl rfl (any_of HT_.out (by kernel_rfl)) (fun _ _ _ h => h) (Or.inl ⟨by rfl, ?_⟩) ?_ ?_
  rotate_left
  ·intro w'
   go_simp
   with_reducible rfl
  rotate_left
  ·simp only [Act.put, List.setIfInBounds_toArray, List.set_cons_zero, List.set_cons_succ, i64_w, i32_w]
   rfl
  refine one_ (i := 7) (N := none) #[true, true, true, true, true, true, true, true] rfl rfl (one_of HT_.out (by kernel_rfl)) (by decide) (fun K hK => ?_)
  have hs10 : w8.cell? ⟨gb155, 0, none⟩ = some (.int .i64 0) := (blk_cell BK155.out 0).trans rfl
  have hfs10 := blk_frozen BK155.out 0
  have hns10_0 := NB154_155.out; have hms10_0 := NB155_154.out
  have hs11 : w8.cell? ⟨gb155, 1, none⟩ = some (.slice none 0 0) := (blk_cell BK155.out 1).trans rfl
  have hfs11 := blk_frozen BK155.out 1
  have hns11_0 := NB154_155.out; have hms11_0 := NB155_154.out
  refine skip_ (w1 := ?_) (by rfl) rfl ?_ ?_
  rotate_left
  ·go_simp
   rfl
  refine hK.out _ _ ⟨((cell_far (p := ⟨gb155, _, none⟩) NB154_155.out _).trans (((cell_far (p := ⟨gb155, _, none⟩) NB154_155.out _).trans (hHeld.1)))), ((cell_far (p := ⟨gb155, _, none⟩) NB154_155.out _).trans (((cell_far (p := ⟨gb155, _, none⟩) NB154_155.out _).trans (hHeld.2))))⟩ (fun hHeld => ?_)
  clear hK K
  refine done_ (done_of HT_.out (by kernel_rfl)) ?_
  try go_wp2
  refine bodyPost_ret (results_cell_row rfl _ _ gb155 54 #[.int .i64 a0_0, .slice Ao9 y159.length co9] (0, 0) _ rfl (by (with_reducible repeat (first | refine blk_drewN ?_ _ | refine blk_drew ?_ | refine blk_alloc ?_ _)); exact blk_fill2 BK155.out) Try.underlying54 rfl (by kernel_rfl)) rfl ?_
  exact ⟨_, by first | rfl | (simp [errW_none, errW_some] <;> rfl) | (simp [*, errW_none, errW_some] <;> rfl), by exact (Kd.R_farN HO161.out BK155.out), by exact bel0⟩
 ·rw [if_neg c2] at H
  exact absurd H (by simp)

/-! ### spec_WheelTick: function 41 -/
mutual
def spec_WheelTick.j0 : Nat → Int → Bool → Int → List (S133) → Option (Int × (List (S133)) × List Int)
  | 0, _, _, _, _ => none
  | k + 1, x1, x21, x163000, x163001 => if x21 = true then ((spec_l7own.f x163000 x163001).bind fun bt165 => (some (bt165.1, bt165.2, ([] : List Int)))) else (spec_WheelTick.l0 k ([] : List Int) 0 x163000 x163001 (wrap64 (x163000 + x1)) ([] : List (S133)))
def spec_WheelTick.l0 : Nat → List Int → Int → Int → List (S133) → Int → List (S133) → Option (Int × (List (S133)) × List Int)
  | 0, _, _, _, _, _, _ => none
  | k + 1, x7, x8, x163000, x163001, x170000, x170001 => if x8 < (x163001.length : Int) then (if 0 ≤ x8 then (if ((rd_T133 x163001 x8).f1) ≤ x170000 then (if x7.length < 17592186044416 then (spec_WheelTick.l0 k (x7 ++ [(rd_T133 x163001 x8).f0]) (wrap64 (x8 + 1)) x163000 x163001 x170000 x170001) else (none)) else (if x170001.length < 8796093022208 then (spec_WheelTick.l0 k x7 (wrap64 (x8 + 1)) x163000 x163001 x170000 (x170001 ++ [(⟨(rd_T133 x163001 x8).f0, (rd_T133 x163001 x8).f1⟩ : S133)])) else (none))) else (none)) else (some (x170000, x170001, x7))
end
def spec_WheelTick.f (k : Nat) (a0_0 : Int) (l0_1 : List (S133)) (a1 : Int) : Option (Int × (List (S133)) × List Int) := (spec_WheelOk.f k a0_0 l0_1).bind fun t164 => (if t164 = true then (if a1 < 0 then (spec_WheelTick.j0 k a1 true a0_0 l0_1) else (spec_WheelTick.j0 k a1 (decide (a1 > (wrap64 (1000000 - a0_0)))) a0_0 l0_1)) else (some (0, ([] : List (S133)), ([] : List Int))))
theorem spec_WheelTick.mono_l : ∀ k, (∀ y0 y1 y2 y3, LeO (spec_WheelTick.j0 k y0 y1 y2 y3) (spec_WheelTick.j0 (k + 1) y0 y1 y2 y3)) ∧ (∀ y0 y1 y2 y3 y4 y5, LeO (spec_WheelTick.l0 k y0 y1 y2 y3 y4 y5) (spec_WheelTick.l0 (k + 1) y0 y1 y2 y3 y4 y5))
 | 0 => ⟨fun _ _ _ _ r h => by simp [spec_WheelTick.j0] at h, fun _ _ _ _ _ _ r h => by simp [spec_WheelTick.l0] at h⟩
 | k + 1 => by
  obtain ⟨ih0, ih1⟩ := spec_WheelTick.mono_l k
  refine ⟨?_, ?_⟩
  ·intro y0 y1 y2 y3
   unfold spec_WheelTick.j0
   repeat' first
   | (with_reducible exact ih0 _ _ _ _)
   | (with_reducible exact ih1 _ _ _ _ _ _)
   | (with_reducible exact spec_WheelOk.mono _ _ _)
   | (with_reducible exact LeO.refl _)
   | (with_reducible exact LeO.none _)
   | (with_reducible refine LeO.ite ?_ ?_)
   | (with_reducible refine LeO.bind ?_ (fun _ => ?_))
   | exact ih0 _ _ _ _
   | exact ih1 _ _ _ _ _ _
   | exact spec_WheelOk.mono _ _ _
   | exact LeO.none _
   | refine LeO.ite ?_ ?_
   | refine LeO.bind ?_ (fun _ => ?_)
  ·intro y0 y1 y2 y3 y4 y5
   unfold spec_WheelTick.l0
   repeat' first
   | (with_reducible exact ih0 _ _ _ _)
   | (with_reducible exact ih1 _ _ _ _ _ _)
   | (with_reducible exact spec_WheelOk.mono _ _ _)
   | (with_reducible exact LeO.refl _)
   | (with_reducible exact LeO.none _)
   | (with_reducible refine LeO.ite ?_ ?_)
   | (with_reducible refine LeO.bind ?_ (fun _ => ?_))
   | exact ih0 _ _ _ _
   | exact ih1 _ _ _ _ _ _
   | exact spec_WheelOk.mono _ _ _
   | exact LeO.none _
   | refine LeO.ite ?_ ?_
   | refine LeO.bind ?_ (fun _ => ?_)
theorem spec_WheelTick.mono : ∀ a0 a1 a2 k, LeO (spec_WheelTick.f k a0 a1 a2) (spec_WheelTick.f (k + 1) a0 a1 a2) := by
 intro a0 a1 a2 k
 obtain ⟨ih0, ih1⟩ := spec_WheelTick.mono_l k
 unfold spec_WheelTick.f
 repeat' first
   | (with_reducible exact ih0 _ _ _ _)
   | (with_reducible exact ih1 _ _ _ _ _ _)
   | (with_reducible exact spec_WheelOk.mono _ _ _)
   | (with_reducible exact LeO.refl _)
   | (with_reducible exact LeO.none _)
   | (with_reducible refine LeO.ite ?_ ?_)
   | (with_reducible refine LeO.bind ?_ (fun _ => ?_))
   | exact ih0 _ _ _ _
   | exact ih1 _ _ _ _ _ _
   | exact spec_WheelOk.mono _ _ _
   | exact LeO.none _
   | refine LeO.ite ?_ ?_
   | refine LeO.bind ?_ (fun _ => ?_)
def spec_WheelTick.T10 : Bool × List (List Nat × List Nat) := (true, [([], []), ([0], [0]), ([], []), ([1, 2], [1, 2]), ([3], [3]), ([4], [4]), ([], []), ([6], [6]), ([5, 7], [5, 7])])
def spec_WheelTick.B10 : List Nat := [0, 1, 0, 7, 15, 31, 0, 64, 255]
theorem spec_WheelTick.tab10 : rtab .any (opsOf Try.f41 10) = spec_WheelTick.T10 := by kernel_rfl
theorem spec_WheelTick.bits10 : waitsOk spec_WheelTick.T10.2 spec_WheelTick.B10 = true := by kernel_rfl
def spec_WheelTick.T12 : Bool × List (List Nat × List Nat) := (true, [([], []), ([0], [0]), ([], []), ([2], [2]), ([], []), ([3, 4], [3, 4]), ([5], [5]), ([6], [6]), ([1, 7], [1, 7]), ([0, 1, 2, 3, 4, 5, 6, 7, 8], []), ([9, 8, 8, 0, 1, 2, 3, 4, 5, 6, 7, 8], [8, 9])])
def spec_WheelTick.B12 : List Nat := [0, 1, 0, 4, 0, 28, 60, 124, 255, 511, 1023]
theorem spec_WheelTick.tab12 : rtab .any (opsOf Try.f41 12) = spec_WheelTick.T12 := by kernel_rfl
theorem spec_WheelTick.bits12 : waitsOk spec_WheelTick.T12.2 spec_WheelTick.B12 = true := by kernel_rfl
set_option maxHeartbeats 8000000 in
set_option maxRecDepth 100000 in
theorem spec_WheelTick.calls (k : Nat) (a0_0 : Int) (A0_1 : Option Addr) (c0_1 : Nat) (l0_1 : List (S133)) (a1 : Int) (r1 : Int) (r2 : List (S133)) (r3 : List Int) (w : World) (hr0_1 : Kd.C k133 w A0_1 l0_1.length l0_1) (hc0_1 : l0_1.length ≤ c0_1) (h : spec_WheelTick.f k a0_0 l0_1 a1 = some (r1, r2, r3)) :
  Calls Try.prog 41 #[.agg #[.int .i64 a0_0, .slice A0_1 l0_1.length c0_1], .int .i64 a1] w fun e w' => ∃ v1_ v2_ : Value, e = .returned (.tuple #[.agg #[.int .i64 r1, v1_], v2_]) ∧ Kd.R k133 133 w' w.heap.size (fun _ => True) v1_ r2 ∧ Kd.R (Kd.int .i64) 3 w' w.heap.size (fun _ => True) v2_ r3 ∧ Below w.heap.size w w' := by
 have hu54 := Try.underlying54
 have hu133 := Try.underlying133
 have HR0_1 := Aside0.mk hr0_1; have HC0_1 := Aside0.mk hc0_1; clear hr0_1 hc0_1
 have HB := Aside0.mk (Below.refl w.heap.size w)
 have H : ((spec_WheelOk.f k a0_0 l0_1).bind fun t164 => (if t164 = true then (if a1 < 0 then (spec_WheelTick.j0 k a1 true a0_0 l0_1) else (spec_WheelTick.j0 k a1 (decide (a1 > (wrap64 (1000000 - a0_0)))) a0_0 l0_1)) else (some (0, ([] : List (S133)), ([] : List Int))))) = some (r1, r2, r3) := h
 clear h; replace H := Option.bind_eq_some_iff.mp H; obtain ⟨t164, A30, H⟩ := H; have A3 := Aside0.mk A30; clear A30; go_enter Try.func41, Try.ntmps41
 replace H := Aside0.mk H
 go_wp2_with (first | ((with_reducible refine gate_dst (N := 2) rfl ?_); refine box_event ?hg (N := 2) ?hd (cs := #[.int .i64 a0_0, .slice A0_1 l0_1.length c0_1]) (t := 54) ?hr ?_; (case hd => rfl); (case hg => rfl); (case hr => first | (go_simp; done) | (go_simp; rfl)); intro gb162 hg w4 hbox hb; have n_ := an (below_step (by exact bel0) hb) (an (hbox) (an ((by rw [hg]; exact (below_size (by exact bel0)) : w.heap.size ≤ gb162)) (an ((by rw [hg]; exact (below_size (by exact bel0)) : w.heap.size ≤ gb162)) (trivial)))); clear HB; obtain ⟨HB, BK162, GW162, GE162, -⟩ := n_; clear hb hbox hg) | ((with_reducible refine gate_dst (N := 4) rfl ?_); refine box_event ?hg (N := 4) ?hd (cs := #[.int .i64 0, .slice none 0 0]) (t := 54) ?hr ?_; (case hd => rfl); (case hg => rfl); (case hr => first | (go_simp; done) | (go_simp; rfl)); intro gb163 hg w5 hbox hb; have n_ := an (blk_below (blk_nw BK162.out) hb) (an (below_step (by exact bel0) hb) (an (hbox) (an ((by rw [hg]; exact (below_size (by exact bel0)) : w.heap.size ≤ gb163)) (an ((by rw [hg]; exact (below_size (by exact bel0)) : w.heap.size ≤ gb163)) (an ((by rw [hg]; exact Nat.ne_of_lt (blk_lt (blk_nw BK162.out)) : gb162 ≠ gb163)) (an ((by rw [hg]; exact Nat.ne_of_gt (blk_lt (blk_nw BK162.out)) : gb163 ≠ gb162)) (trivial))))))); clear BK162 HB; obtain ⟨BK162, HB, BK163, GW163, GE163, NB162_163, NB163_162, -⟩ := n_; clear hb hbox hg; have hnb6 := NB162_163.out; have hnc6 := NB163_162.out; obtain ⟨hcz7_0, hcz7_1⟩ := blkz2 BK162.out; have hfz7_0 := blkf BK162.out) | ((with_reducible refine gate_callee (f := 88) rfl ?_); refine goesL_ (some 10) rfl rfl Try.func88 (by kernel_rfl) rfl #[.agg #[.int .i64 a0_0, .slice A0_1 l0_1.length c0_1]] rfl (by (try simp only [List.map_toArray, List.map_cons, List.map_nil]); first | done | rfl | (simp only [List.length_drop, List.length_take]; rfl)) ?_; (with_reducible refine (spec_WheelOk.calls k a0_0 _ _ l0_1 t164 _ ?side1 ?side2 A3.out).mono ?_); (case side1 => repeat (first | exact (Kd.C_below HR0_1.out HB.out) | (with_reducible refine Kd.C_alloc ?_ _) | (with_reducible refine Kd.C_drewN ?_ _) | (with_reducible refine Kd.C_drew ?_))); (case side2 => exact HC0_1.out); rintro e w8 ⟨rfl, hb⟩; refine ⟨_, rfl, ?_⟩; have n_ := an (blk_below (blk_nw BK162.out) hb) (an (blk_below (blk_nw BK163.out) hb) (an (below_step (by exact bel0) hb) (trivial))); clear BK162 BK163 HB; obtain ⟨BK162, BK163, HB, -⟩ := n_; (try clear hb); (try clear hb2); (try clear hk); (try clear hi); refine Stop.out ?_))
 refine Stop.mk ?_
 replace H := H.out
 by_cases c9 : t164 = true
 ·subst c9; rw [if_pos rfl] at H; have HC10 := Aside0.mk H; clear H
  go_upto_region 3 with (fail)
  go_cut [21] (fun v21 wc => ∃ (kq : Nat) (x21_9 : Bool), v21 = .bool x21_9 ∧ Aside0 (spec_WheelTick.j0 kq a1 x21_9 a0_0 l0_1 = some (r1, r2, r3)) ∧ Aside0 (kq ≤ k) ∧ Aside0 (wc.heap[gb162]? = some (.cells #[.int .i64 a0_0, (.slice A0_1 l0_1.length c0_1)] 54 (0, 0))) ∧ Aside0 (wc.heap[gb163]? = some (.cells #[.int .i64 0, (.slice none 0 0)] 54 (0, 0))) ∧ Aside0 (Below w.heap.size w wc))
  case first =>
   have H := HC10.out; clear HC10
   by_cases c11 : a1 < 0
   ·rw [if_pos c11] at H; have c11b0 : decide (a1 < 0) = true := decide_eq_true c11; clear c11; (try simp only [c11b0])
    (first | rw [c11b0] | (simp only [i64_w, i32_w]; rw [c11b0]) | skip)
    have H' := Aside0.mk H
    clear H
    go_wp2
    go_meet
    case rel => exact ⟨_, (true), (by first | rfl | (simp; done) | (simp [*]; done)), H', ⟨by first | omega | exact Nat.le_refl _⟩, ⟨by exact blk_nw BK162.out⟩, ⟨by exact blk_nw BK163.out⟩, ⟨by exact bel0⟩⟩
   ·rw [if_neg c11] at H; have c11b0 : decide (a1 < 0) = false := decide_eq_false c11; clear c11; (try simp only [c11b0])
    (first | rw [c11b0] | (simp only [i64_w, i32_w]; rw [c11b0]) | skip)
    have H' := Aside0.mk H
    clear H; have hnb12 := NB162_163.out; have hnc12 := NB163_162.out; obtain ⟨hcz13_0, hcz13_1⟩ := blkz2 BK162.out; have hfz13_0 := blkf BK162.out
    go_wp2
    go_meet
    case rel => exact ⟨_, (decide (a1 > (wrap64 (1000000 - a0_0)))), (by first | rfl | (simp; done) | (simp [*]; done)), H', ⟨by first | omega | exact Nat.le_refl _⟩, ⟨by exact blk_nw BK162.out⟩, ⟨by exact blk_nw BK163.out⟩, ⟨by exact bel0⟩⟩
  case rest =>
   clear HC10; try clear c1; try clear p2; try clear c4; try clear c6; try clear p6; try clear c8; try clear c9; try clear c11; try clear c11b0; try clear c12; try clear hcz13_0; try clear hcz13_1; try clear hcz7_0; try clear hcz7_1; try clear hfz13_0; try clear hfz13_1; try clear hfz7_0; try clear hfz7_1
   obtain ⟨kq, x21_9, rfl, HA, HJ9, BK162, BK163, HB⟩ := hcut
   cases kq with
   | zero => exact absurd HA.out (by simp [spec_WheelTick.j0])
   | succ kj9 =>
    have H := HA.out; clear HA
    simp only [spec_WheelTick.j0] at H
    by_cases c14 : x21_9 = true
    ·subst c14; rw [if_pos rfl] at H; replace H := Option.bind_eq_some_iff.mp H
     obtain ⟨⟨t165, t166⟩, A150, H⟩ := H
     replace H : (some (t165, t166, ([] : List Int))) = some (r1, r2, r3) := H
     have A15 := Aside0.mk A150; clear A150; simp only [Option.some.injEq, Prod.mk.injEq] at H; obtain ⟨rfl, rfl, rfl⟩ := H; have hnb16 := NB162_163.out; have hnc16 := NB163_162.out; obtain ⟨hcz17_0, hcz17_1⟩ := blkz2 BK162.out; have hfz17_0 := blkf BK162.out
     go_wp2_with (first | ((with_reducible refine gate_callee (f := 89) rfl ?_); refine goesL_ (some 23) rfl rfl Try.func89 (by kernel_rfl) rfl #[.agg #[.int .i64 a0_0, .slice A0_1 l0_1.length c0_1]] rfl (by (try simp only [List.map_toArray, List.map_cons, List.map_nil]); first | done | rfl | (simp only [List.length_drop, List.length_take]; rfl)) ?_; (with_reducible refine (spec_l7own.calls a0_0 _ _ l0_1 t165 t166 _ ?side1 ?side2 A15.out).mono ?_); (case side1 => repeat (first | exact (Kd.C_below HR0_1.out HB.out) | (with_reducible refine Kd.C_alloc ?_ _) | (with_reducible refine Kd.C_drewN ?_ _) | (with_reducible refine Kd.C_drew ?_))); (case side2 => exact HC0_1.out); rintro e w18 ⟨v167, rfl, ho0, hb⟩; refine ⟨_, rfl, ?_⟩; have n_ := an (Kd.R_lower ho0 (below_size (by exact bel0))) (an (blk_below (blk_nw BK162.out) hb) (an (blk_below (blk_nw BK163.out) hb) (an (below_step (by exact bel0) hb) (trivial)))); clear BK162 BK163 HB; obtain ⟨HO168, BK162, BK163, HB, -⟩ := n_; (try clear hb); (try clear hb2); (try clear hk); (try clear hi); (try clear ho0); obtain ⟨hcz19_0, hcz19_1⟩ := blkz2 BK163.out; have hfz19_0 := blkf BK163.out; obtain ⟨Ao20, co20, eo20⟩ := Kd.R_slice HO168.out; subst eo20))
     refine bodyPost_ret (results_ct rfl _ _ gb163 54 #[.int .i64 t165, .slice Ao20 t166.length co20] (0, 0) _ rfl (by (with_reducible repeat (first | refine blk_drewN ?_ _ | refine blk_drew ?_ | refine blk_alloc ?_ _)); exact blk_fill2 BK163.out) Try.underlying54 rfl (by kernel_rfl)) rfl ?_
     exact ⟨_, _, by first | rfl | (simp [errW_none, errW_some] <;> rfl) | (simp [*, errW_none, errW_some] <;> rfl), by exact (Kd.R_farN HO168.out BK163.out), by first | exact Kd.R_nil _ _ _ _ _ | exact Kd.N_nil _ _ _ _ _ | exact Kd.V_nil _ _ _ _ _ | exact Kd.Q_nil _ _ _ _ _ | exact Kd.S_nil _ _ _ _ _, by exact bel0⟩
    ·replace c14 := Bool.eq_false_iff.mpr c14
     subst c14
     rw [if_neg (show ¬ (false = true) by decide)] at H
     have H' := Aside0.mk H
     clear H; have hnb21 := NB162_163.out; have hnc21 := NB163_162.out; obtain ⟨hcz22_0, hcz22_1⟩ := blkz2 BK162.out; have hfz22_0 := blkf BK162.out
     go_wp2_with (first | ((with_reducible refine gate_dst (N := 6) rfl ?_); refine box_event ?hg (N := 6) ?hd (cs := #[.int .i64 0, .slice none 0 0]) (t := 54) ?hr ?_; (case hd => rfl); (case hg => rfl); (case hr => first | (go_simp; done) | (go_simp; rfl)); intro gb169 hg w23 hbox hb; have n_ := an (blk_below (blk_nw BK162.out) hb) (an (blk_below (blk_nw BK163.out) hb) (an (below_step (by exact bel0) hb) (an (hbox) (an ((by rw [hg]; exact (below_size (by exact bel0)) : w.heap.size ≤ gb169)) (an ((by rw [hg]; exact (below_size (by exact bel0)) : w.heap.size ≤ gb169)) (an ((by rw [hg]; exact Nat.ne_of_lt (blk_lt (blk_nw BK162.out)) : gb162 ≠ gb169)) (an ((by rw [hg]; exact Nat.ne_of_gt (blk_lt (blk_nw BK162.out)) : gb169 ≠ gb162)) (an ((by rw [hg]; exact Nat.ne_of_lt (blk_lt (blk_nw BK163.out)) : gb163 ≠ gb169)) (an ((by rw [hg]; exact Nat.ne_of_gt (blk_lt (blk_nw BK163.out)) : gb169 ≠ gb163)) (trivial)))))))))); clear BK162 BK163 HB; obtain ⟨BK162, BK163, HB, BK169, GW169, GE169, NB162_169, NB169_162, NB163_169, NB169_163, -⟩ := n_; clear hb hbox hg; have hnb24 := NB169_162.out; have hnc24 := NB162_169.out; have hnb25 := NB169_163.out; have hnc25 := NB163_169.out; obtain ⟨hcz26_0, hcz26_1⟩ := blkz2 BK169.out; have hfz26_0 := blkf BK169.out))
     go_loopg [7, 8] kj9 (fun kq v7 v8 w' => ∃ (x7_2 : List Int) (x8_2 : Int) (x170001_2 : List (S133)) (u170001 : Value), v8 = .int .i64 x8_2 ∧ Aside0 (spec_WheelTick.l0 kq x7_2 x8_2 a0_0 l0_1 (wrap64 (a0_0 + a1)) x170001_2 = some (r1, r2, r3)) ∧ Aside0 (kq ≤ kj9) ∧ Aside0 (Kd.R (Kd.int .i64) 3 w' w.heap.size (fun _ => True) v7 x7_2) ∧ Aside0 (Kd.R k133 133 w' w.heap.size (fun _ => True) u170001 x170001_2) ∧ Aside0 (w'.heap[gb162]? = some (.cells #[.int .i64 a0_0, (.slice A0_1 l0_1.length c0_1)] 54 (0, 0))) ∧ Aside0 (w'.heap[gb163]? = some (.cells #[.int .i64 0, (.slice none 0 0)] 54 (0, 0))) ∧ Aside0 (w'.heap[gb169]? = some (.cells #[.int .i64 (wrap64 (a0_0 + a1)), u170001] 54 (0, 0))) ∧ Aside0 (Below w.heap.size w w'))
     case atStart => exact ⟨(([] : List Int)), (0), (([] : List (S133))), (.slice none 0 0), (by first | rfl | (simp; done) | (simp [*]; done)), H', ⟨Nat.le_refl _⟩, ⟨by first | exact Kd.R_nil _ _ _ _ _ | exact Kd.N_nil _ _ _ _ _ | exact Kd.V_nil _ _ _ _ _ | exact Kd.Q_nil _ _ _ _ _ | exact Kd.S_nil _ _ _ _ _⟩, ⟨by first | exact Kd.R_nil _ _ _ _ _ | exact Kd.N_nil _ _ _ _ _ | exact Kd.V_nil _ _ _ _ _ | exact Kd.Q_nil _ _ _ _ _ | exact Kd.S_nil _ _ _ _ _⟩, ⟨by exact blk_kb BK162.out NB162_169.out⟩, ⟨by exact blk_kb BK163.out NB163_169.out⟩, ⟨by (with_reducible repeat (first | refine blk_drewN ?_ _ | refine blk_drew ?_ | refine blk_alloc ?_ _)); exact blk_fill2 BK169.out⟩, ⟨by exact bel0⟩⟩
     case round =>
      clear H'
      try clear c1; try clear c2; try clear p2; try clear c4; try clear c6; try clear p6; try clear c8; try clear c9; try clear c11; try clear c11b0; try clear c12; try clear c14; try clear c16; try clear c21; try clear c24; try clear c25; try clear hcz13_0; try clear hcz13_1; try clear hcz17_0; try clear hcz17_1; try clear hcz19_0; try clear hcz19_1; try clear hcz22_0; try clear hcz22_1; try clear hcz26_0; try clear hcz26_1; try clear hcz7_0; try clear hcz7_1; try clear hfz13_0; try clear hfz13_1; try clear hfz17_0; try clear hfz17_1; try clear hfz19_0; try clear hfz19_1; try clear hfz22_0; try clear hfz22_1; try clear hfz26_0; try clear hfz26_1; try clear hfz7_0; try clear hfz7_1; try clear p2; try clear p6
      obtain ⟨x7_2, x8_2, x170001_2, u170001, rfl, HA, HK2, HO_7, HO_170001, BK162, BK163, BK169, HB⟩ := hrel
      cases gk with
      | zero => exact absurd HA.out (by simp [spec_WheelTick.l0])
      | succ k2 =>
       have H := HA.out; clear HA
       simp only [spec_WheelTick.l0] at H
       by_cases c27 : x8_2 < (l0_1.length : Int)
       ·rw [if_pos c27] at H
        have c27b0 : decide (x8_2 < (l0_1.length : Int)) = true := decide_eq_true c27
        clear c27; (try simp only [c27b0])
        by_cases c28 : 0 ≤ x8_2
        ·rw [if_pos c28] at H; have c28b0 : decide (0 ≤ x8_2) = true := decide_eq_true c28; clear c28; (try simp only [c28b0]); have hnb29 := NB162_163.out; have hnc29 := NB163_162.out; have hnb30 := NB162_169.out; have hnc30 := NB169_162.out; obtain ⟨hcz31_0, hcz31_1⟩ := blkz2 BK162.out; have hfz31_0 := blkf BK162.out
         replace H := Aside0.mk H
         try go_wp2
         have n_ := an (Kd.R_drew HO_7.out) (an (Kd.R_drew HO_170001.out) (an (blk_drew BK162.out) (an (blk_drew BK163.out) (an (blk_drew BK169.out) (an (below_drew1 HB.out) (trivial))))))
         clear HO_7 HO_170001 BK162 BK163 BK169 HB
         obtain ⟨HO_7, HO_170001, BK162, BK163, BK169, HB, -⟩ := n_
         have p170 : 0 ≤ (x8_2 : Int) := of_decide_eq_true (by first | (with_reducible assumption) | assumption)
         have q170 : x8_2 < (l0_1.length : Int) := of_decide_eq_true (by first | (with_reducible assumption) | assumption)
         obtain ⟨ad170, e170, hx170_0, hx170_1⟩ := at_T133 HR0_1.out x8_2 p170 q170
         have hw170_1 := hx170_1
         have hw170_0 := hx170_0
         cases e170
         replace hx170_0 := (HB.out.cell (World.block_lt_of_cell? w _ hx170_0)).trans hx170_0
         replace hx170_1 := (HB.out.cell (World.block_lt_of_cell? w _ hx170_1)).trans hx170_1
         replace p170 := eq_true p170
         replace q170 := eq_true q170
         refine start_ (n := 9) (S := fun w' => w'.cell? ⟨gb162, 0, none⟩ = some (.int .i64 a0_0) ∧ w'.cell? ⟨gb162, 1, none⟩ = some (.slice (some ad170) l0_1.length c0_1) ∧ w'.cell? ⟨gb169, 0, none⟩ = some (.int .i64 (wrap64 (a0_0 + a1))) ∧ w'.cell? ⟨gb169, 1, none⟩ = some (u170001) ∧ w'.cell? (ad170.add ((x8_2).toNat * 2)) = some (.int .i64 ((rd_T133 l0_1 x8_2).f0)) ∧ w'.cell? ⟨(ad170.add ((x8_2).toNat * 2)).block, (ad170.add ((x8_2).toNat * 2)).off + 1, none⟩ = some (.int .i64 ((rd_T133 l0_1 x8_2).f1))) (ds := []) #[false, false, false, false, false, false, false, false, false] (by kernel_rfl) rfl rfl ⟨(blk_cell BK162.out 0).trans rfl, (blk_cell BK162.out 1).trans rfl, (blk_cell BK169.out 0).trans rfl, (blk_cell BK169.out 1).trans rfl, ((HB.out.cell (World.block_lt_of_cell? w _ hw170_0)).trans hw170_0), ((HB.out.cell (World.block_lt_of_cell? w _ hw170_1)).trans hw170_1)⟩ (fun hHeld => ?_); refine with_tabW spec_WheelTick.tab10 spec_WheelTick.bits10 (fun HT_ HW_ => ?_)
         generalize wr.drew = w32 at HO_7 HO_170001 BK162 BK163 BK169 HB hx170_0 hx170_1 hHeld ⊢
         refine pure_ (i := 0) (N := some 36) (v := ?_) (a' := ?_) #[true, false, false, false, false, false, false, false, false] rfl rfl (any_of HT_.out (by kernel_rfl)) (fun _ _ _ h => h) (Or.inl ⟨by rfl, ?_⟩) ?_ ?_
         rotate_left
         ·intro w'
          go_simp
          with_reducible rfl
         rotate_left
         ·simp only [Act.put, List.setIfInBounds_toArray, List.set_cons_zero, List.set_cons_succ, i64_w, i32_w]
          rfl
         refine pure_ (i := 2) (N := some 38) (v := ?_) (a' := ?_) #[true, false, true, false, false, false, false, false, false] rfl rfl (any_of HT_.out (by kernel_rfl)) (fun _ _ _ h => h) (Or.inl ⟨by rfl, ?_⟩) ?_ ?_
         rotate_left
         ·intro w'
          go_simp
          with_reducible rfl
         rotate_left
         ·simp only [Act.put, List.setIfInBounds_toArray, List.set_cons_zero, List.set_cons_succ, i64_w, i32_w]
          rfl
         refine pure_ (i := 6) (N := some 42) (v := ?_) (a' := ?_) #[true, false, true, false, false, false, true, false, false] rfl rfl (any_of HT_.out (by kernel_rfl)) (fun _ _ _ h => h) (Or.inl ⟨by rfl, ?_⟩) ?_ ?_
         rotate_left
         ·intro w'
          go_simp
          with_reducible rfl
         rotate_left
         ·simp only [Act.put, List.setIfInBounds_toArray, List.set_cons_zero, List.set_cons_succ, i64_w, i32_w]
          rfl
         refine take_ (i := 1) (N := some 37) (v := ?_) (a' := ?_) #[true, true, true, false, false, false, true, false, false] rfl rfl (take_ofW HT_.out HW_.out (by kernel_rfl)) (fun _ _ _ h => h) (Or.inl ⟨by rfl, ?_⟩) hHeld ?_ ?_
         rotate_left
         ·rintro w' ⟨s0, s1, s2, s3, s4, s5⟩
          go_simp
          with_reducible rfl
         rotate_left
         ·simp only [Act.put, List.setIfInBounds_toArray, List.set_cons_zero, List.set_cons_succ, i64_w, i32_w]
          rfl
         refine pure_ (i := 3) (N := some 39) (v := ?_) (a' := ?_) #[true, true, true, true, false, false, true, false, false] rfl rfl (any_of HT_.out (by kernel_rfl)) (fun _ _ _ h => h) (Or.inl ⟨by rfl, ?_⟩) ?_ ?_
         rotate_left
         ·intro w'
          go_simp
          with_reducible rfl
         rotate_left
         ·simp only [Act.put, List.setIfInBounds_toArray, List.set_cons_zero, List.set_cons_succ, i64_w, i32_w]
          rfl
         refine pure_ (i := 4) (N := some 40) (v := ?_) (a' := ?_) #[true, true, true, true, true, false, true, false, false] rfl rfl (any_of HT_.out (by kernel_rfl)) (fun _ _ _ h => h) (Or.inl ⟨by rfl, ?_⟩) ?_ ?_
         rotate_left
         ·intro w'
          go_simp
          with_reducible rfl
         rotate_left
         ·simp only [Act.put, List.setIfInBounds_toArray, List.set_cons_zero, List.set_cons_succ, i64_w, i32_w]
          rfl
         refine take_ (i := 5) (N := some 41) (v := ?_) (a' := ?_) #[true, true, true, true, true, true, true, false, false] rfl rfl (take_ofW HT_.out HW_.out (by kernel_rfl)) (fun _ _ _ h => h) (Or.inl ⟨by rfl, ?_⟩) hHeld ?_ ?_
         rotate_left
         ·rintro w' ⟨s0, s1, s2, s3, s4, s5⟩
          go_simp
          with_reducible rfl
         rotate_left
         ·simp only [Act.put, List.setIfInBounds_toArray, List.set_cons_zero, List.set_cons_succ, i64_w, i32_w]
          rfl
         refine take_ (i := 7) (N := some 43) (v := ?_) (a' := ?_) #[true, true, true, true, true, true, true, true, false] rfl rfl (take_ofW HT_.out HW_.out (by kernel_rfl)) (fun _ _ _ h => h) (Or.inl ⟨by rfl, ?_⟩) hHeld ?_ ?_
         rotate_left
         ·rintro w' ⟨s0, s1, s2, s3, s4, s5⟩
          go_simp
          with_reducible rfl
         rotate_left
         ·simp only [Act.put, List.setIfInBounds_toArray, List.set_cons_zero, List.set_cons_succ, i64_w, i32_w]
          rfl
         refine pure_ (i := 8) (N := some 44) (v := ?_) (a' := ?_) #[true, true, true, true, true, true, true, true, true] rfl rfl (any_of HT_.out (by kernel_rfl)) (fun _ _ _ h => h) (Or.inl ⟨by rfl, ?_⟩) ?_ ?_
         rotate_left
         ·intro w'
          go_simp
          with_reducible rfl
         rotate_left
         ·simp only [Act.put, List.setIfInBounds_toArray, List.set_cons_zero, List.set_cons_succ, i64_w, i32_w]
          rfl
         refine done_ (done_of HT_.out (by kernel_rfl)) ?_
         replace H := H.out
         by_cases c33 : ((rd_T133 l0_1 x8_2).f1) ≤ (wrap64 (a0_0 + a1))
         ·rw [if_pos c33] at H; have c33b0 : decide (((rd_T133 l0_1 x8_2).f1) ≤ (wrap64 (a0_0 + a1))) = true := decide_eq_true c33; clear c33; (try simp only [c33b0])
          by_cases c34 : x7_2.length < 17592186044416
          ·rw [if_pos c34] at H; have LMc34 := Aside0.mk c34; clear c34
           obtain ⟨y172, hy172⟩ : ∃ y_ : List Int, y_ = (x7_2 ++ [(rd_T133 l0_1 x8_2).f0]) := ⟨_, rfl⟩
           replace H : (spec_WheelTick.l0 k2 y172 (wrap64 (x8_2 + 1)) a0_0 l0_1 (wrap64 (a0_0 + a1)) x170001_2) = some (r1, r2, r3) := by first | (rw [hy172]; with_reducible exact H) | (have H2_ := (Option.bind_some _ _).symm.trans H; rw [hy172]; with_reducible exact H2_) | (have H2_ := (Option.bind_some _ _).symm.trans H; with_reducible exact H2_) | with_reducible exact H | (rw [hy172]; exact H) | exact H
           have Ny172 := Aside0.mk hy172; clear hy172
           have H' := Aside0.mk H
           clear H; have hnb35 := NB162_163.out; have hnc35 := NB163_162.out; have hnb36 := NB162_169.out; have hnc36 := NB169_162.out; obtain ⟨hcz37_0, hcz37_1⟩ := blkz2 BK162.out; have hfz37_0 := blkf BK162.out
           have p171 : 0 ≤ (x8_2 : Int) := of_decide_eq_true (by first | (with_reducible assumption) | assumption)
           have q171 : x8_2 < (l0_1.length : Int) := of_decide_eq_true (by first | (with_reducible assumption) | assumption)
           obtain ⟨ad171, e171, hx171_0, hx171_1⟩ := at_T133 HR0_1.out x8_2 p171 q171
           obtain rfl : ad170 = ad171 := (by injection e171)
           replace hx171_0 := (HB.out.cell (World.block_lt_of_cell? w _ hx171_0)).trans hx171_0
           replace hx171_1 := (HB.out.cell (World.block_lt_of_cell? w _ hx171_1)).trans hx171_1
           replace p171 := eq_true p171
           replace q171 := eq_true q171
           go_wp2_with (first | ((with_reducible refine gate_builtin (b := .append) (xs := #[.tmp 45, .tmp 52]) rfl ?_); at_builtin; refine Kd.R_append (Kd.int .i64) (w0 := w) w.heap.size rfl (.tmp 45) (.tmp 52) 63 3 (.int .i64 0) 8 rfl Try.underlying63 info3 rfl (by decide) (by omega) u7 x7_2 ((rd_T133 l0_1 x8_2).f0) [.int .i64 ((rd_T133 l0_1 x8_2).f0)] (fun _ => True) (fun _ => False) rfl rfl ?aP (fun _ hk => hk.elim) ?aF ?aO ?aB ?aS ?aL ?_; (case aP => exact rfl); (case aB => exact (by exact bel0)); (case aF => exact (fun _ _ => trivial)); (case aO => exact (by exact Kd.R_nw HO_7.out)); (case aS => exact (below_size (by exact bel0))); (case aL => have := LMc34.out; omega); intro v173 w38 ho hb hg hat; rw [← Ny172.out] at ho; have n_ := an (Kd.R_over' (by exact Kd.R_nw HO_170001.out) (Kd.R_typed (by exact Kd.R_nw HO_7.out)) (by decide) hg) (an (blk_grown (blk_nw BK162.out) hg (Kd.R_ne HO_7.out BK162.out (by decide))) (an (blk_grown (blk_nw BK163.out) hg (Kd.R_ne HO_7.out BK163.out (by decide))) (an (blk_grown (blk_nw BK169.out) hg (Kd.R_ne HO_7.out BK169.out (by decide))) (an (hb) (an (ho) (trivial)))))); clear HO_170001 BK162 BK163 BK169 HB HO_7; obtain ⟨HO_170001, BK162, BK163, BK169, HB, HO174, -⟩ := n_; clear ho hb hg hat))
           go_roundg k2
           case measure => have := HJ9.out; have := HK2.out; omega
           case rel => exact ⟨(y172), (wrap64 (x8_2 + 1)), (x170001_2), (u170001), (by first | rfl | (simp; done) | (simp [*]; done)), H', ⟨by have := HJ9.out; have := HK2.out; omega⟩, ⟨by exact Kd.R_nw HO174.out⟩, ⟨by exact Kd.R_nw HO_170001.out⟩, ⟨by exact blk_nw BK162.out⟩, ⟨by exact blk_nw BK163.out⟩, ⟨by exact blk_nw BK169.out⟩, ⟨by exact bel0⟩⟩
          ·rw [if_neg c34] at H
           exact absurd H (by simp)
         ·rw [if_neg c33] at H; have c33b0 : decide (((rd_T133 l0_1 x8_2).f1) ≤ (wrap64 (a0_0 + a1))) = false := decide_eq_false c33; clear c33; (try simp only [c33b0])
          by_cases c39 : x170001_2.length < 8796093022208
          ·rw [if_pos c39] at H; have LMc39 := Aside0.mk c39; clear c39
           obtain ⟨y176, hy176⟩ : ∃ y_ : List (S133), y_ = (x170001_2 ++ [(⟨(rd_T133 l0_1 x8_2).f0, (rd_T133 l0_1 x8_2).f1⟩ : S133)]) := ⟨_, rfl⟩
           replace H : (spec_WheelTick.l0 k2 x7_2 (wrap64 (x8_2 + 1)) a0_0 l0_1 (wrap64 (a0_0 + a1)) y176) = some (r1, r2, r3) := by first | (rw [hy176]; with_reducible exact H) | (have H2_ := (Option.bind_some _ _).symm.trans H; rw [hy176]; with_reducible exact H2_) | (have H2_ := (Option.bind_some _ _).symm.trans H; with_reducible exact H2_) | with_reducible exact H | (rw [hy176]; exact H) | exact H
           have Ny176 := Aside0.mk hy176; clear hy176
           have H' := Aside0.mk H
           clear H
           try go_wp2
           have n_ := an (Kd.R_drew HO_7.out) (an (Kd.R_drew HO_170001.out) (an (blk_drew BK162.out) (an (blk_drew BK163.out) (an (blk_drew BK169.out) (an (below_drew1 HB.out) (trivial))))))
           clear HO_7 HO_170001 BK162 BK163 BK169 HB
           obtain ⟨HO_7, HO_170001, BK162, BK163, BK169, HB, -⟩ := n_
           have p175 : 0 ≤ (x8_2 : Int) := of_decide_eq_true (by first | (with_reducible assumption) | assumption)
           have q175 : x8_2 < (l0_1.length : Int) := of_decide_eq_true (by first | (with_reducible assumption) | assumption)
           obtain ⟨ad175, e175, hx175_0, hx175_1⟩ := at_T133 HR0_1.out x8_2 p175 q175
           have hw175_1 := hx175_1
           have hw175_0 := hx175_0
           obtain rfl : ad170 = ad175 := (by injection e175)
           replace hx175_0 := (HB.out.cell (World.block_lt_of_cell? w _ hx175_0)).trans hx175_0
           replace hx175_1 := (HB.out.cell (World.block_lt_of_cell? w _ hx175_1)).trans hx175_1
           replace p175 := eq_true p175
           replace q175 := eq_true q175
           refine start_ (n := 11) (S := fun w' => w'.cell? ⟨gb169, 0, none⟩ = some (.int .i64 (wrap64 (a0_0 + a1))) ∧ w'.cell? ⟨gb169, 1, none⟩ = some (u170001) ∧ w'.cell? ⟨gb162, 0, none⟩ = some (.int .i64 a0_0) ∧ w'.cell? ⟨gb162, 1, none⟩ = some (.slice (some ad170) l0_1.length c0_1) ∧ w'.cell? (ad170.add ((x8_2).toNat * 2)) = some (.int .i64 ((rd_T133 l0_1 x8_2).f0)) ∧ w'.cell? ⟨(ad170.add ((x8_2).toNat * 2)).block, (ad170.add ((x8_2).toNat * 2)).off + 1, none⟩ = some (.int .i64 ((rd_T133 l0_1 x8_2).f1))) (ds := [10]) #[false, false, false, false, false, false, false, false, false, false, false] (by kernel_rfl) rfl rfl ⟨(blk_cell BK169.out 0).trans rfl, (blk_cell BK169.out 1).trans rfl, (blk_cell BK162.out 0).trans rfl, (blk_cell BK162.out 1).trans rfl, ((HB.out.cell (World.block_lt_of_cell? w _ hw175_0)).trans hw175_0), ((HB.out.cell (World.block_lt_of_cell? w _ hw175_1)).trans hw175_1)⟩ (fun hHeld => ?_); refine with_tabW spec_WheelTick.tab12 spec_WheelTick.bits12 (fun HT_ HW_ => ?_)
           generalize w32.drew = w40 at HO_7 HO_170001 BK162 BK163 BK169 HB hx175_0 hx175_1 hHeld ⊢
           refine pure_ (i := 0) (N := some 54) (v := ?_) (a' := ?_) #[true, false, false, false, false, false, false, false, false, false, false] rfl rfl (any_of HT_.out (by kernel_rfl)) (fun _ _ _ h => h) (Or.inl ⟨by rfl, ?_⟩) ?_ ?_
           rotate_left
           ·intro w'
            go_simp
            with_reducible rfl
           rotate_left
           ·simp only [Act.put, List.setIfInBounds_toArray, List.set_cons_zero, List.set_cons_succ, i64_w, i32_w]
            rfl
           refine pure_ (i := 2) (N := some 56) (v := ?_) (a' := ?_) #[true, false, true, false, false, false, false, false, false, false, false] rfl rfl (any_of HT_.out (by kernel_rfl)) (fun _ _ _ h => h) (Or.inl ⟨by rfl, ?_⟩) ?_ ?_
           rotate_left
           ·intro w'
            go_simp
            with_reducible rfl
           rotate_left
           ·simp only [Act.put, List.setIfInBounds_toArray, List.set_cons_zero, List.set_cons_succ, i64_w, i32_w]
            rfl
           refine pure_ (i := 4) (N := some 58) (v := ?_) (a' := ?_) #[true, false, true, false, true, false, false, false, false, false, false] rfl rfl (any_of HT_.out (by kernel_rfl)) (fun _ _ _ h => h) (Or.inl ⟨by rfl, ?_⟩) ?_ ?_
           rotate_left
           ·intro w'
            go_simp
            with_reducible rfl
           rotate_left
           ·simp only [Act.put, List.setIfInBounds_toArray, List.set_cons_zero, List.set_cons_succ, i64_w, i32_w]
            rfl
           refine take_ (i := 1) (N := some 55) (v := ?_) (a' := ?_) #[true, true, true, false, true, false, false, false, false, false, false] rfl rfl (take_ofW HT_.out HW_.out (by kernel_rfl)) (fun _ _ _ h => h) (Or.inl ⟨by rfl, ?_⟩) hHeld ?_ ?_
           rotate_left
           ·rintro w' ⟨s0, s1, s2, s3, s4, s5⟩
            go_simp
            with_reducible rfl
           rotate_left
           ·simp only [Act.put, List.setIfInBounds_toArray, List.set_cons_zero, List.set_cons_succ, i64_w, i32_w]
            rfl
           refine take_ (i := 3) (N := some 57) (v := ?_) (a' := ?_) #[true, true, true, true, true, false, false, false, false, false, false] rfl rfl (take_ofW HT_.out HW_.out (by kernel_rfl)) (fun _ _ _ h => h) (Or.inl ⟨by rfl, ?_⟩) hHeld ?_ ?_
           rotate_left
           ·rintro w' ⟨s0, s1, s2, s3, s4, s5⟩
            go_simp
            with_reducible rfl
           rotate_left
           ·simp only [Act.put, List.setIfInBounds_toArray, List.set_cons_zero, List.set_cons_succ, i64_w, i32_w]
            rfl
           refine pure_ (i := 5) (N := some 59) (v := ?_) (a' := ?_) #[true, true, true, true, true, true, false, false, false, false, false] rfl rfl (any_of HT_.out (by kernel_rfl)) (fun _ _ _ h => h) (Or.inl ⟨by rfl, ?_⟩) ?_ ?_
           rotate_left
           ·intro w'
            go_simp
            with_reducible rfl
           rotate_left
           ·simp only [Act.put, List.setIfInBounds_toArray, List.set_cons_zero, List.set_cons_succ, i64_w, i32_w]
            rfl
           refine take_ (i := 6) (N := some 60) (v := ?_) (a' := ?_) #[true, true, true, true, true, true, true, false, false, false, false] rfl rfl (take_ofW HT_.out HW_.out (by kernel_rfl)) (fun _ _ _ h => h) (Or.inl ⟨by rfl, ?_⟩) hHeld ?_ ?_
           rotate_left
           ·rintro w' ⟨s0, s1, s2, s3, s4, s5⟩
            go_simp
            with_reducible rfl
           rotate_left
           ·simp only [Act.put, List.setIfInBounds_toArray, List.set_cons_zero, List.set_cons_succ, i64_w, i32_w]
            rfl
           refine one_ (i := 7) (N := some 61) #[true, true, true, true, true, true, true, true, false, false, false] rfl rfl (one_of HT_.out (by kernel_rfl)) (by decide) (fun K hK => ?_)
           refine value_ (w1 := ?_) (v := ?_) (by rfl) rfl ?_ ?_
           rotate_left 2
           ·go_simp
            constructor
            ·rfl
            ·rfl
           refine hK.out _ _ ⟨(blk_cell (blk_alloc BK169.out _) 0).trans rfl, (blk_cell (blk_alloc BK169.out _) 1).trans rfl, (blk_cell (blk_alloc BK162.out _) 0).trans rfl, (blk_cell (blk_alloc BK162.out _) 1).trans rfl, (World.cell?_alloc_lt _ _ _ (World.block_lt_of_cell? _ _ (((HB.out.cell (World.block_lt_of_cell? w _ hw175_0)).trans hw175_0)))).trans (((HB.out.cell (World.block_lt_of_cell? w _ hw175_0)).trans hw175_0)), (World.cell?_alloc_lt _ _ _ (World.block_lt_of_cell? _ _ (((HB.out.cell (World.block_lt_of_cell? w _ hw175_1)).trans hw175_1)))).trans (((HB.out.cell (World.block_lt_of_cell? w _ hw175_1)).trans hw175_1))⟩ (fun hHeld => ?_)
           clear hK K
           refine norm_ (a' := ?_) ?_ ?_
           rotate_left
           ·show Act.put _ (some 61) _ = _
            simp only [Act.put, List.setIfInBounds_toArray, List.set_cons_zero, List.set_cons_succ, i64_w, i32_w]
            rfl
           refine one_ (i := 8) (N := some 62) #[true, true, true, true, true, true, true, true, true, false, false] rfl rfl (one_of HT_.out (by kernel_rfl)) (by decide) (fun K hK => ?_)
           refine Kd.R_append_step k133 (w0 := w) w.heap.size (by rfl) (.tmp 55) (.tmp 61) 52 133 (.agg #[(.int .i64 0), (.int .i64 0)]) 16 rfl Try.underlying52 info133 rfl (by decide) (by omega) u170001 x170001_2 (⟨(rd_T133 l0_1 x8_2).f0, (rd_T133 l0_1 x8_2).f1⟩ : S133) [.int .i64 ((rd_T133 l0_1 x8_2).f0), .int .i64 ((rd_T133 l0_1 x8_2).f1)] (fun _ => True) (fun _ => False) rfl rfl ?aP (fun _ hk => hk.elim) ?aF ?aO ?aB ?aS ?aL ?_
           (case aP => exact k133_mkM _ _ _ (⟨(rd_T133 l0_1 x8_2).f0, (rd_T133 l0_1 x8_2).f1⟩ : S133))
           (case aB => exact (by exact bel0))
           (case aF => exact (fun _ _ => trivial))
           (case aO => exact (by exact Kd.R_nw HO_170001.out))
           (case aS => exact (below_size (by exact bel0)))
           (case aL => have := LMc39.out; omega)
           intro v177 w41 ho hb hg hat
           rw [← Ny176.out] at ho
           have n_ := an (Kd.R_over' (by exact Kd.R_nw HO_7.out) (Kd.R_typed (by exact Kd.R_nw HO_170001.out)) (by decide) hg) (an (blk_grown (blk_nw BK162.out) hg (Kd.R_ne HO_170001.out BK162.out (by decide))) (an (blk_grown (blk_nw BK163.out) hg (Kd.R_ne HO_170001.out BK163.out (by decide))) (an (blk_grown (blk_nw BK169.out) hg (Kd.R_ne HO_170001.out BK169.out (by decide))) (an (hb) (an (ho) (trivial))))))
           clear HO_7 BK162 BK163 BK169 HB HO_170001
           obtain ⟨HO_7, BK162, BK163, BK169, HB, HO178, -⟩ := n_
           clear ho hb hg hat
           obtain ⟨Ao42, co42, eo42⟩ := Kd.R_slice HO178.out
           (first | subst eo42 | (injection eo42 with f1_ f2_ f3_; have f4_ := f1_.symm; have f5_ := f3_.symm; clear f1_ f2_ f3_; subst f4_; subst f5_))
           refine hK.out _ _ ⟨(blk_cell BK169.out 0).trans rfl, (blk_cell BK169.out 1).trans rfl, (blk_cell BK162.out 0).trans rfl, (blk_cell BK162.out 1).trans rfl, ((HB.out.cell (World.block_lt_of_cell? w _ hw175_0)).trans hw175_0), ((HB.out.cell (World.block_lt_of_cell? w _ hw175_1)).trans hw175_1)⟩ (fun hHeld => ?_)
           clear hK K
           refine norm_ (a' := ?_) ?_ ?_
           rotate_left
           ·show Act.put _ (some 62) _ = _
            simp only [Act.put, List.setIfInBounds_toArray, List.set_cons_zero, List.set_cons_succ, i64_w, i32_w]
            rfl
           refine pure_ (i := 9) (N := some 63) (v := ?_) (a' := ?_) #[true, true, true, true, true, true, true, true, true, true, false] rfl rfl (any_of HT_.out (by kernel_rfl)) (fun _ _ _ h => h) (Or.inl ⟨by rfl, ?_⟩) ?_ ?_
           rotate_left
           ·intro w'
            go_simp
            with_reducible rfl
           rotate_left
           ·simp only [Act.put, List.setIfInBounds_toArray, List.set_cons_zero, List.set_cons_succ, i64_w, i32_w]
            rfl
           refine last_ (i := 10) (N := none) #[true, true, true, true, true, true, true, true, true, true, true] rfl rfl (one_of HT_.out (by kernel_rfl)) (by decide) (fun K hK => ?_)
           have hs43 : w41.cell? ⟨gb169, 1, none⟩ = some (u170001) := (blk_cell BK169.out 1).trans rfl
           have hfs43 := blk_frozen BK169.out 1
           have hns43_0 := NB162_169.out; have hns43_1 := NB163_169.out; have hms43_0 := NB169_162.out; have hms43_1 := NB169_163.out
           refine skip_ (w1 := ?_) (by rfl) rfl ?_ ?_
           rotate_left
           ·go_simp
            rfl
           refine hK.out _ _ ?_
           clear hK K
           refine done_ (done_of HT_.out (by kernel_rfl)) ?_
           try go_wp2
           go_roundg k2
           case measure => have := HJ9.out; have := HK2.out; omega
           case rel => exact ⟨(x7_2), (wrap64 (x8_2 + 1)), (y176), (.slice Ao42 y176.length co42), (by first | rfl | (simp; done) | (simp [*]; done)), H', ⟨by have := HJ9.out; have := HK2.out; omega⟩, ⟨by exact (Kd.R_farN HO_7.out BK169.out)⟩, ⟨by exact (Kd.R_farN HO178.out BK169.out)⟩, ⟨by exact blk_kb BK162.out NB162_169.out⟩, ⟨by exact blk_kb BK163.out NB163_169.out⟩, ⟨by (with_reducible repeat (first | refine blk_drewN ?_ _ | refine blk_drew ?_ | refine blk_alloc ?_ _)); refine blk_put (cs := #[.int .i64 (wrap64 (a0_0 + a1)), u170001]) ?_ 1 _ rfl; (with_reducible repeat (first | refine blk_drewN ?_ _ | refine blk_drew ?_ | refine blk_alloc ?_ _)); exact BK169.out⟩, ⟨by exact bel0⟩⟩
          ·rw [if_neg c39] at H
           exact absurd H (by simp)
        ·rw [if_neg c28] at H
         exact absurd H (by simp)
       ·rw [if_neg c27] at H
        have c27b0 : decide (x8_2 < (l0_1.length : Int)) = false := decide_eq_false c27
        clear c27; (try simp only [c27b0]); simp only [Option.some.injEq, Prod.mk.injEq] at H; obtain ⟨rfl, rfl, rfl⟩ := H; have hnb44 := NB162_163.out; have hnc44 := NB163_162.out; have hnb45 := NB162_169.out; have hnc45 := NB169_162.out; obtain ⟨hcz46_0, hcz46_1⟩ := blkz2 BK162.out; have hfz46_0 := blkf BK162.out; have hnb47 := NB169_163.out; have hnc47 := NB163_169.out; obtain ⟨hcz48_0, hcz48_1⟩ := blkz2 BK169.out; have hfz48_0 := blkf BK169.out; obtain ⟨hcz49_0, hcz49_1⟩ := blkz2 BK163.out; have hfz49_0 := blkf BK163.out
        obtain ⟨Ao50, co50, eo50⟩ := Kd.R_slice HO_170001.out
        subst eo50
        go_wp2
        refine bodyPost_ret (results_ct rfl _ _ gb163 54 #[.int .i64 (wrap64 (a0_0 + a1)), .slice Ao50 x170001_2.length co50] (0, 0) _ rfl (by (with_reducible repeat (first | refine blk_drewN ?_ _ | refine blk_drew ?_ | refine blk_alloc ?_ _)); exact blk_fill2 BK163.out) Try.underlying54 rfl (by kernel_rfl)) rfl ?_
        exact ⟨_, _, by first | rfl | (simp [errW_none, errW_some] <;> rfl) | (simp [*, errW_none, errW_some] <;> rfl), by exact (Kd.R_farN HO_170001.out BK163.out), by exact (Kd.R_farN HO_7.out BK163.out), by exact bel0⟩
 ·replace c9 := Bool.eq_false_iff.mpr c9
  subst c9
  rw [if_neg (show ¬ (false = true) by decide)] at H
  simp only [Option.some.injEq, Prod.mk.injEq] at H; obtain ⟨rfl, rfl, rfl⟩ := H; have hnb51 := NB163_162.out; have hnc51 := NB162_163.out; obtain ⟨hcz52_0, hcz52_1⟩ := blkz2 BK163.out; have hfz52_0 := blkf BK163.out
  go_wp2
  refine bodyPost_ret (results_ct rfl _ _ gb163 54 #[.int .i64 0, .slice none 0 0] (0, 0) _ rfl (by (with_reducible repeat (first | refine blk_drewN ?_ _ | refine blk_drew ?_ | refine blk_alloc ?_ _)); exact blk_fill2 BK163.out) Try.underlying54 rfl (by kernel_rfl)) rfl ?_
  exact ⟨_, _, by first | rfl | (simp [errW_none, errW_some] <;> rfl) | (simp [*, errW_none, errW_some] <;> rfl), by first | exact Kd.R_nil _ _ _ _ _ | exact Kd.N_nil _ _ _ _ _ | exact Kd.V_nil _ _ _ _ _ | exact Kd.Q_nil _ _ _ _ _ | exact Kd.S_nil _ _ _ _ _, by first | exact Kd.R_nil _ _ _ _ _ | exact Kd.N_nil _ _ _ _ _ | exact Kd.V_nil _ _ _ _ _ | exact Kd.Q_nil _ _ _ _ _ | exact Kd.S_nil _ _ _ _ _, by exact bel0⟩

/-! ### impl_within: function 72 -/
def impl_within.f (a0 : Int) (a1 : Int) (a2 : Int) : Option (Bool) := if a1 ≤ a0 then (some (decide (a0 ≤ a2))) else (some false)
set_option maxHeartbeats 8000000 in
set_option maxRecDepth 100000 in
theorem impl_within.calls (a0 : Int) (a1 : Int) (a2 : Int) (r : Bool) (w : World) (h : impl_within.f a0 a1 a2 = some r) :
  Calls Try.prog 72 #[.int .i64 a0, .int .i64 a1, .int .i64 a2] w fun e w' => e = .returned (.bool r) ∧ Drawn0 w w' := by
 have H : (if a1 ≤ a0 then (some (decide (a0 ≤ a2))) else (some false)) = some r := h
 clear h
 by_cases c4 : a1 ≤ a0
 ·rw [if_pos c4] at H; have c4b0 : decide (a1 ≤ a0) = true := decide_eq_true c4; clear c4; (try simp only [c4b0])
  obtain rfl := Option.some.inj H
  go_enter Try.func72, Try.ntmps72
  go_wp2
  go_ret
  exact ⟨by first | rfl | (simp; done) | (simp [*]; done), by repeat (first | exact Drawn0.refl _ | apply Drawn0.step)⟩
 ·rw [if_neg c4] at H; have c4b0 : decide (a1 ≤ a0) = false := decide_eq_false c4; clear c4; (try simp only [c4b0])
  obtain rfl := Option.some.inj H
  go_enter Try.func72, Try.ntmps72
  go_wp2
  go_ret
  exact ⟨by first | rfl | (simp; done) | (simp [*]; done), by repeat (first | exact Drawn0.refl _ | apply Drawn0.step)⟩

/-! ### impl_isId: function 139 -/
def impl_isId.f (a0 : Int) : Option (Bool) := (impl_within.f a0 0 2147483647).bind fun t179 => (some t179)
set_option maxHeartbeats 8000000 in
set_option maxRecDepth 100000 in
theorem impl_isId.calls (a0 : Int) (r : Bool) (w : World) (h : impl_isId.f a0 = some r) :
  Calls Try.prog 139 #[.int .i64 a0] w fun e w' => e = .returned (.bool r) ∧ Drawn0 w w' := by
 have H : ((impl_within.f a0 0 2147483647).bind fun t179 => (some t179)) = some r := h
 clear h; replace H := Option.bind_eq_some_iff.mp H; obtain ⟨t179, A20, H⟩ := H; have A2 := Aside0.mk A20; clear A20
 obtain rfl := Option.some.inj H
 go_enter Try.func139, Try.ntmps139
 go_wp2_with (first | ((with_reducible refine gate_callee (f := 72) rfl ?_); refine goesL_ (some 4) rfl rfl Try.func72 (by kernel_rfl) rfl #[.int .i64 a0, .int .i64 0, .int .i64 2147483647] rfl (by (try simp only [List.map_toArray, List.map_cons, List.map_nil]); first | done | rfl | (simp only [List.length_drop, List.length_take]; rfl)) ?_; (with_reducible refine (impl_within.calls a0 0 2147483647 t179 _ A2.out).mono ?_); rintro e w' ⟨rfl, ⟨nd, rfl⟩⟩; refine ⟨_, rfl, ?_⟩))
 go_ret
 exact ⟨by first | rfl | (simp; done) | (simp [*]; done), by repeat (first | exact Drawn0.refl _ | apply Drawn0.step)⟩

-- NOT PRINTED: function 173 (impl_Timer_173)

/-! ### impl_Wheel_timer: function 140 -/
def impl_Wheel_timer_c.p (id : Int) (x : S133) : Bool := x.f0 == id
theorem impl_Wheel_timer_c.rdget {l : List (S133)} {i : Nat} (h : i < l.length) : rd_T133 l (i : Int) = l[i] := by
 unfold rd_T133; rw [Int.toNat_natCast, List.getD_eq_getElem?_getD, List.getElem?_eq_getElem h]; rfl
set_option maxHeartbeats 8000000 in
set_option maxRecDepth 100000 in
theorem impl_Wheel_timer_c.clo (id : Int) (x : S133) (g0_ : Nat) (w : World) (q0_ : w.heap[g0_]? = some (.cells #[.int .i64 id] 3 (0, 0))) :
  Calls Try.prog 174 #[.agg #[.int .i64 x.f0, .int .i64 x.f1], .pointer (some ⟨g0_, 0, none⟩)] w fun e w' => e = .returned (.bool (impl_Wheel_timer_c.p id x)) ∧ Below w.heap.size w w' := by
 have hu133 := Try.underlying133
 have hca := fun o => blkz1 (blk_alloc q0_ o)
 go_enter Try.func174, Try.ntmps174
 go_wp2
 go_ret
 exact ⟨rfl, by repeat (first | (with_reducible exact Below.refl _ _) | (with_reducible apply below_alloc))⟩
set_option maxHeartbeats 8000000 in
set_option maxRecDepth 100000 in
theorem impl_Wheel_timer_c.idx (id : Int) (g0_ : Nat) (A0 : Option Addr) (c0 : Nat) (l0 : List (S133)) (w : World) (hr0 : Kd.C k133 w A0 l0.length l0) (hc0 : l0.length ≤ c0) (hl : l0.length < 9223372036854775807) (q0_ : w.heap[g0_]? = some (.cells #[.int .i64 id] 3 (0, 0))) :
  Calls Try.prog 173 #[.slice A0 l0.length c0, .func (.func 174) #[] #[.pointer (some ⟨g0_, 0, none⟩)]] w fun e w' => e = .returned (.int .i64 (ixOf (impl_Wheel_timer_c.p id) l0 0)) ∧ Below w.heap.size w w' := by
 have hu133 := Try.underlying133
 have HR0 := Aside0.mk hr0
 have HQ0 := Aside0.mk (fun (W : World) (h : Below w.heap.size w W) => (h.block g0_ (blk_lt q0_)).trans q0_)
 have HB0 := Aside0.mk (Below.refl w.heap.size w)
 have HH := Aside0.mk (show ixOf (impl_Wheel_timer_c.p id) l0 0 = ixOf (impl_Wheel_timer_c.p id) (l0.drop 0) 0 by rw [List.drop_zero])
 clear hr0 hc0 q0_; go_enter Try.func173, Try.ntmps173
 go_wp2
 go_loopg [8] (l0.length + 1) (fun kx s8 wr => ∃ i : Nat, s8 = .int .i64 i ∧ i ≤ l0.length ∧ Aside0 (l0.length < kx + i) ∧ Aside0 (ixOf (impl_Wheel_timer_c.p id) l0 0 = ixOf (impl_Wheel_timer_c.p id) (l0.drop i) i) ∧ Aside0 (Below w.heap.size w wr))
 case atStart => exact ⟨0, rfl, Nat.zero_le _, ⟨by omega⟩, HH, HB0⟩
 case round =>
  clear HH HB0
  obtain ⟨i, rfl, hi, HK, HX, HB⟩ := hrel
  cases gk with
  | zero => exact absurd HK.out (by omega)
  | succ k1 =>
   by_cases hlt : i < l0.length
   ·obtain ⟨ad, ead, hx0, hx1⟩ := at_T133 HR0.out (i : Int) (by omega) (by omega)
    cases ead
    replace hx0 := pw_cell_below HB.out hx0
    replace hx1 := pw_cell_below HB.out hx1
    rw [Int.toNat_natCast] at hx0 hx1
    cases he : impl_Wheel_timer_c.p id (rd_T133 l0 (i : Int)) with
    | true =>
     have HE := Aside0.mk (HX.out.trans (ixOf_at (impl_Wheel_timer_c.p id) l0 i i hlt (by rw [← impl_Wheel_timer_c.rdget hlt]; exact he)))
     go_wp2_with (go_at_call 174; refine (impl_Wheel_timer_c.clo id (rd_T133 l0 (i : Int)) g0_ _ ?sd0).mono ?_; (case sd0 => exact HQ0.out _ HB.out); rintro e w2 ⟨rfl, hb2⟩)
     go_ret
     exact ⟨by rw [HE.out]; rfl, below_step HB.out hb2⟩
    | false =>
     have HE := Aside0.mk (HX.out.trans (ixOf_next (impl_Wheel_timer_c.p id) l0 i i hlt (by rw [← impl_Wheel_timer_c.rdget hlt]; exact he)))
     go_wp2_with (go_at_call 174; refine (impl_Wheel_timer_c.clo id (rd_T133 l0 (i : Int)) g0_ _ ?sd0).mono ?_; (case sd0 => exact HQ0.out _ HB.out); rintro e w2 ⟨rfl, hb2⟩)
     go_roundg k1
     case measure => omega
     case rel => exact ⟨i + 1, by go_num, by omega, ⟨by have := HK.out; omega⟩, HE, ⟨below_step HB.out hb2⟩⟩
   ·have HE := Aside0.mk (HX.out.trans (by rw [List.drop_eq_nil_of_le (by omega)]; rfl : ixOf (impl_Wheel_timer_c.p id) (l0.drop i) i = -1))
    go_wp2
    go_ret
    exact ⟨by rw [HE.out]; rfl, HB.out⟩

def impl_Wheel_timer.f (a0_0 : Int) (l0_1 : List S133) (a1 : Int) : Option Int := if l0_1.length < 9223372036854775807 then some (ixOf (impl_Wheel_timer_c.p a1) l0_1 0) else none
set_option maxHeartbeats 8000000 in
set_option maxRecDepth 100000 in
theorem impl_Wheel_timer.calls (a0_0 : Int) (A0_1 : Option Addr) (c0_1 : Nat) (l0_1 : List S133) (a1 : Int) (r : Int) (w : World) (hr0_1 : Kd.C k133 w A0_1 l0_1.length l0_1) (hc0_1 : l0_1.length ≤ c0_1) (h : impl_Wheel_timer.f a0_0 l0_1 a1 = some r) :
  Calls Try.prog 140 #[.agg #[.int .i64 a0_0, .slice A0_1 l0_1.length c0_1], .int .i64 a1] w fun e w' => e = .returned (.int .i64 r) ∧ Below w.heap.size w w' := by
 have hu54 := Try.underlying54
 unfold impl_Wheel_timer.f at h
 by_cases hl : l0_1.length < 9223372036854775807
 ·rw [if_pos hl] at h
  obtain rfl := Option.some.inj h
  have HR := Aside0.mk hr0_1; have HC := Aside0.mk hc0_1; have HL := Aside0.mk hl; clear hr0_1 hc0_1 hl h; go_enter Try.func140, Try.ntmps140
  go_wp2_with (go_at_call 173; refine (impl_Wheel_timer_c.idx a1 _ _ _ l0_1 _ ?side1 HC.out HL.out ?side2).mono ?_; (case side1 => repeat (first | exact HR.out | (with_reducible refine Kd.C_alloc ?_ _))); (case side2 => exact heap_alloc_at _ _ _ (by simp)); rintro e w2 ⟨rfl, hb⟩)
  go_ret
  exact ⟨rfl, below_step (by repeat (first | (with_reducible exact Below.refl _ _) | (with_reducible apply below_alloc))) hb⟩
 ·rw [if_neg hl] at h
  exact absurd h (by simp)

/-! ### cmp_isNaN_int: function 191 -/
def cmp_isNaN_int.f (a0 : Int) : Option (Bool) := some (a0 != a0)
set_option maxHeartbeats 8000000 in
set_option maxRecDepth 100000 in
theorem cmp_isNaN_int.calls (a0 : Int) (r : Bool) (w : World) (h : cmp_isNaN_int.f a0 = some r) :
  Calls Try.prog 191 #[.int .i64 a0] w fun e w' => e = .returned (.bool r) ∧ Drawn0 w w' := by
 have H : (some (a0 != a0)) = some r := h
 clear h
 obtain rfl := Option.some.inj H
 go_enter Try.func191, Try.ntmps191
 go_wp2
 go_ret
 exact ⟨by first | rfl | (simp; done) | (simp [*]; done), by repeat (first | exact Drawn0.refl _ | apply Drawn0.step)⟩

end Go.Proofs.Ytigoajblljolcaa.XFnExactWheelTick
