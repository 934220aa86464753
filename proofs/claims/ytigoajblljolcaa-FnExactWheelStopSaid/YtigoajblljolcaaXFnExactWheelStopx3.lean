-- Written by this session's own program (xprint.py) over the kit's print.
import Derived.Test.YtigoajblljolcaaXFnExactWheelStopx0
import Derived.Test.YtigoajblljolcaaXFnExactWheelStopx1
import Derived.Test.YtigoajblljolcaaXFnExactWheelStopx2
namespace Go.Proofs.Ytigoajblljolcaa.XFnExactWheelStop
open Go.RowKit Go.Proofs.YtigoajblljolcaaW.PrintWords Go.Proofs.YtigoajblljolcaaW.PrintLast Go.Proofs.YtigoajblljolcaaW.PrintMore
attribute [local go_sem] max2_int min2_int max_two min_two max_three min_three max_four min_four   -- for this text's walks alone
set_option linter.unusedVariables false
set_option linter.unusedSimpArgs false

/-! ### spec_l7own: function 89 -/
def spec_l7own.f (a0_0 : Int) (l0_1 : List (S133)) : Option (Int × (List (S133))) := (some (([] : List (S133)) : List (S133))).bind fun y123 => (if y123.length + l0_1.length < 8796093022208 then (some (a0_0, (y123 ++ l0_1))) else (none))
def spec_l7own.T1 : Bool × List (List Nat × List Nat) := (true, [([], []), ([0], [0]), ([], []), ([], []), ([3], [3]), ([2, 4], [2, 4]), ([1, 5], [1, 5]), ([6, 5, 0, 1, 2, 3, 4, 5, 6], [6])])
def spec_l7own.B1 : List Nat := [0, 1, 0, 0, 8, 28, 63, 127]
theorem spec_l7own.tab1 : rtab .any (opsOf Try.f89 1) = spec_l7own.T1 := by kernel_rfl
theorem spec_l7own.bits1 : waitsOk spec_l7own.T1.2 spec_l7own.B1 = true := by kernel_rfl
set_option maxHeartbeats 8000000 in
set_option maxRecDepth 100000 in
theorem spec_l7own.calls (a0_0 : Int) (A0_1 : Option Addr) (c0_1 : Nat) (l0_1 : List (S133)) (r1 : Int) (r2 : List (S133)) (w : World) (hr0_1 : Kd.C k133 w A0_1 l0_1.length l0_1) (hc0_1 : l0_1.length ≤ c0_1) (h : spec_l7own.f a0_0 l0_1 = some (r1, r2)) :
  Calls Try.prog 89 #[.agg #[.int .i64 a0_0, .slice A0_1 l0_1.length c0_1]] w fun e w' => ∃ v1_ : Value, e = .returned (.agg #[.int .i64 r1, v1_]) ∧ Kd.R k133 133 w' w.heap.size (fun _ => True) v1_ r2 ∧ Below w.heap.size w w' := by
 have hu54 := Try.underlying54
 have HR0_1 := Aside0.mk hr0_1; have HC0_1 := Aside0.mk hc0_1; clear hr0_1 hc0_1
 have HB := Aside0.mk (Below.refl w.heap.size w)
 have H : ((some (([] : List (S133)) : List (S133))).bind fun y123 => (if y123.length + l0_1.length < 8796093022208 then (some (a0_0, (y123 ++ l0_1))) else (none))) = some (r1, r2) := h
 clear h
 obtain ⟨y123, hy123⟩ : ∃ y_ : List (S133), y_ = (([] : List (S133))) := ⟨_, rfl⟩
 replace H : (if y123.length + l0_1.length < 8796093022208 then (some (a0_0, (y123 ++ l0_1))) else (none)) = some (r1, r2) := by first | (rw [hy123]; with_reducible exact H) | (have H2_ := (Option.bind_some _ _).symm.trans H; rw [hy123]; with_reducible exact H2_) | (have H2_ := (Option.bind_some _ _).symm.trans H; with_reducible exact H2_) | with_reducible exact H | (rw [hy123]; exact H) | exact H
 have Ny123 := Aside0.mk hy123; clear hy123
 by_cases c2 : y123.length + l0_1.length < 8796093022208
 ·rw [if_pos c2] at H; have LMc2 := Aside0.mk c2; clear c2
  obtain ⟨y126, hy126⟩ : ∃ y_ : List (S133), y_ = (y123 ++ l0_1) := ⟨_, rfl⟩
  replace H : (some (a0_0, y126)) = some (r1, r2) := by first | (rw [hy126]; with_reducible exact H) | (have H2_ := (Option.bind_some _ _).symm.trans H; rw [hy126]; with_reducible exact H2_) | (have H2_ := (Option.bind_some _ _).symm.trans H; with_reducible exact H2_) | with_reducible exact H | (rw [hy126]; exact H) | exact H
  have Ny126 := Aside0.mk hy126; clear hy126; simp only [Option.some.injEq, Prod.mk.injEq] at H; obtain ⟨rfl, rfl⟩ := H; go_enter Try.func89, Try.ntmps89
  try go_wp2_with (first | ((with_reducible refine gate_dst (N := 1) rfl ?_); refine box_event ?hg (N := 1) ?hd (cs := #[.int .i64 a0_0, .slice A0_1 l0_1.length c0_1]) (t := 54) ?hr ?_; (case hd => rfl); (case hg => rfl); (case hr => first | (go_simp; done) | (go_simp; rfl)); intro gb121 hg w3 hbox hb; have n_ := an (below_step (by exact bel0) hb) (an (hbox) (an ((by rw [hg]; exact (below_size (by exact bel0)) : w.heap.size ≤ gb121)) (an ((by rw [hg]; exact (below_size (by exact bel0)) : w.heap.size ≤ gb121)) (trivial)))); clear HB; obtain ⟨HB, BK121, GW121, GE121, -⟩ := n_; clear hb hbox hg) | ((with_reducible refine gate_dst (N := 2) rfl ?_); refine box_event ?hg (N := 2) ?hd (cs := #[.int .i64 0, .slice none 0 0]) (t := 54) ?hr ?_; (case hd => rfl); (case hg => rfl); (case hr => first | (go_simp; done) | (go_simp; rfl)); intro gb122 hg w4 hbox hb; have n_ := an (blk_below (blk_nw BK121.out) hb) (an (below_step (by exact bel0) hb) (an (hbox) (an ((by rw [hg]; exact (below_size (by exact bel0)) : w.heap.size ≤ gb122)) (an ((by rw [hg]; exact (below_size (by exact bel0)) : w.heap.size ≤ gb122)) (an ((by rw [hg]; exact Nat.ne_of_lt (blk_lt (blk_nw BK121.out)) : gb121 ≠ gb122)) (an ((by rw [hg]; exact Nat.ne_of_gt (blk_lt (blk_nw BK121.out)) : gb122 ≠ gb121)) (trivial))))))); clear BK121 HB; obtain ⟨BK121, HB, BK122, GW122, GE122, NB121_122, NB122_121, -⟩ := n_; clear hb hbox hg))
  have n_ := an (blk_drew BK121.out) (an (blk_drew BK122.out) (an (below_drew1 HB.out) (trivial)))
  clear BK121 BK122 HB
  obtain ⟨BK121, BK122, HB, -⟩ := n_
  refine start_ (n := 8) (S := fun w' => w'.cell? ⟨gb121, 0, none⟩ = some (.int .i64 a0_0) ∧ w'.cell? ⟨gb121, 1, none⟩ = some (.slice A0_1 l0_1.length c0_1)) (ds := []) #[false, false, false, false, false, false, false, false] (by kernel_rfl) rfl rfl ⟨(blk_cell BK121.out 0).trans rfl, (blk_cell BK121.out 1).trans rfl⟩ (fun hHeld => ?_); refine with_tabW spec_l7own.tab1 spec_l7own.bits1 (fun HT_ HW_ => ?_)
  generalize w4.drew = w5 at BK121 BK122 HB hHeld ⊢
  refine pure_ (i := 0) (N := some 3) (v := ?_) (a' := ?_) #[true, false, false, false, false, false, false, false] rfl rfl (any_of HT_.out (by kernel_rfl)) (fun _ _ _ h => h) (Or.inl ⟨by rfl, ?_⟩) ?_ ?_
  rotate_left
  ·intro w'
   go_simp
   with_reducible rfl
  rotate_left
  ·simp only [Act.put, List.setIfInBounds_toArray, List.set_cons_zero, List.set_cons_succ, i64_w, i32_w]
   rfl
  refine pure_ (i := 3) (N := some 6) (v := ?_) (a' := ?_) #[true, false, false, true, false, false, false, false] rfl rfl (any_of HT_.out (by kernel_rfl)) (fun _ _ _ h => h) (Or.inl ⟨by rfl, ?_⟩) ?_ ?_
  rotate_left
  ·intro w'
   go_simp
   with_reducible rfl
  rotate_left
  ·simp only [Act.put, List.setIfInBounds_toArray, List.set_cons_zero, List.set_cons_succ, i64_w, i32_w]
   rfl
  refine take_ (i := 1) (N := some 4) (v := ?_) (a' := ?_) #[true, true, false, true, false, false, false, false] rfl rfl (take_ofW HT_.out HW_.out (by kernel_rfl)) (fun _ _ _ h => h) (Or.inl ⟨by rfl, ?_⟩) hHeld ?_ ?_
  rotate_left
  ·rintro w' ⟨s0, s1⟩
   go_simp
   with_reducible rfl
  rotate_left
  ·simp only [Act.put, List.setIfInBounds_toArray, List.set_cons_zero, List.set_cons_succ, i64_w, i32_w]
   rfl
  refine take_ (i := 4) (N := some 7) (v := ?_) (a' := ?_) #[true, true, false, true, true, false, false, false] rfl rfl (take_ofW HT_.out HW_.out (by kernel_rfl)) (fun _ _ _ h => h) (Or.inl ⟨by rfl, ?_⟩) hHeld ?_ ?_
  rotate_left
  ·rintro w' ⟨s0, s1⟩
   go_simp
   with_reducible rfl
  rotate_left
  ·simp only [Act.put, List.setIfInBounds_toArray, List.set_cons_zero, List.set_cons_succ, i64_w, i32_w]
   rfl
  refine one_ (i := 2) (N := some 5) #[true, true, true, true, true, false, false, false] rfl rfl (one_of HT_.out (by kernel_rfl)) (by decide) (fun K hK => ?_)
  refine Kd.R_lit_step k133 _ 133 ?hg (N := 5) ?hd (xs := ([] : List (S133))) (inner := []) (ok := fun _ => True) (okp := fun _ => True) ?hr ?hp (fun _ hk => hk) trivial (Below.refl _ _) (Nat.le_refl _) (by simp) ?_; (case hd => rfl); (case hg => rfl); (case hr => first | (go_simp; done) | (go_simp; rfl)); (case hp => exact (Reps.none _ _))
  intro v124 w6 ho7 hb hg_ hnew_
  clear hg_ hnew_
  (first | rw [← Ny123.out] at ho7 | (simp only [Int.reduceToNat] at ho7; rw [← Ny123.out] at ho7))
  have n_ := an (Kd.R_lower ho7 (below_size (by exact bel0))) (an (blk_below (blk_nw BK121.out) hb) (an (blk_below (blk_nw BK122.out) hb) (an (below_step (by exact bel0) hb) (trivial))))
  clear BK121 BK122 HB
  obtain ⟨HO125, BK121, BK122, HB, -⟩ := n_
  clear hb ho7
  refine hK.out _ _ ⟨(blk_cell BK121.out 0).trans rfl, (blk_cell BK121.out 1).trans rfl⟩ (fun hHeld => ?_)
  clear hK K
  refine norm_ (a' := ?_) ?_ ?_
  rotate_left
  ·show Act.put _ (some 5) _ = _
   simp only [Act.put, List.setIfInBounds_toArray, List.set_cons_zero, List.set_cons_succ, i64_w, i32_w]
   rfl
  refine one_ (i := 5) (N := some 8) #[true, true, true, true, true, true, false, false] rfl rfl (one_of HT_.out (by kernel_rfl)) (by decide) (fun K hK => ?_)
  refine Kd.R_append_rows_step k133 (w0 := w) w.heap.size (by rfl) (.tmp 5) (.tmp 7) 52 133 (.agg #[(.int .i64 0), (.int .i64 0)]) 16 rfl Try.underlying52 info133 rfl (by decide) (by omega) v124 y123 l0_1 _ _ _ (fun _ => True) (fun _ => False) rfl rfl ?aO ?aR (fun _ _ h => h) (fun _ h => h.elim) ?aF ?aB ?aS ?aL ?_
  (case aR => repeat (first | exact (Kd.C_below HR0_1.out HB.out) | (with_reducible refine Kd.C_alloc ?_ _) | (with_reducible refine Kd.C_drewN ?_ _) | (with_reducible refine Kd.C_drew ?_)))
  (case aB => exact (by exact bel0))
  (case aF => exact (fun _ _ => trivial))
  (case aO => exact (by exact Kd.R_nw HO125.out))
  (case aS => exact (below_size (by exact bel0)))
  (case aL => have := LMc2.out; omega)
  intro v127 w8 ho hb hg hat
  rw [← Ny126.out] at ho
  have n_ := an (blk_grown (blk_nw BK121.out) hg (Kd.R_ne HO125.out BK121.out (by decide))) (an (blk_grown (blk_nw BK122.out) hg (Kd.R_ne HO125.out BK122.out (by decide))) (an (hb) (an (ho) (trivial))))
  clear BK121 BK122 HB HO125
  obtain ⟨BK121, BK122, HB, HO128, -⟩ := n_
  clear ho hb hg hat
  obtain ⟨Ao9, co9, eo9⟩ := Kd.R_slice HO128.out
  (first | subst eo9 | (injection eo9 with f1_ f2_ f3_; have f4_ := f1_.symm; have f5_ := f3_.symm; clear f1_ f2_ f3_; subst f4_; subst f5_))
  refine hK.out _ _ ⟨(blk_cell BK121.out 0).trans rfl, (blk_cell BK121.out 1).trans rfl⟩ (fun hHeld => ?_)
  clear hK K
  refine norm_ (a' := ?_) ?_ ?_
  rotate_left
  ·show Act.put _ (some 8) _ = _
   simp only [Act.put, List.setIfInBounds_toArray, List.set_cons_zero, List.set_cons_succ, i64_w, i32_w]
   rfl
  refine pure_ (i := 6) (N := some 9) (v := ?_) (a' := ?_) #[true, true, true, true, true, true, true, false] rfl rfl (any_of HT_.out (by kernel_rfl)) (fun _ _ _ h => h) (Or.inl ⟨by rfl, ?_⟩) ?_ ?_
  rotate_left
  ·intro w'
   go_simp
   with_reducible rfl
  rotate_left
  ·simp only [Act.put, List.setIfInBounds_toArray, List.set_cons_zero, List.set_cons_succ, i64_w, i32_w]
   rfl
  refine one_ (i := 7) (N := none) #[true, true, true, true, true, true, true, true] rfl rfl (one_of HT_.out (by kernel_rfl)) (by decide) (fun K hK => ?_)
  have hs10 : w8.cell? ⟨gb122, 0, none⟩ = some (.int .i64 0) := (blk_cell BK122.out 0).trans rfl
  have hfs10 := blk_frozen BK122.out 0
  have hns10_0 := NB121_122.out; have hms10_0 := NB122_121.out
  have hs11 : w8.cell? ⟨gb122, 1, none⟩ = some (.slice none 0 0) := (blk_cell BK122.out 1).trans rfl
  have hfs11 := blk_frozen BK122.out 1
  have hns11_0 := NB121_122.out; have hms11_0 := NB122_121.out
  refine skip_ (w1 := ?_) (by rfl) rfl ?_ ?_
  rotate_left
  ·go_simp
   rfl
  refine hK.out _ _ ⟨((cell_far (p := ⟨gb122, _, none⟩) NB121_122.out _).trans (((cell_far (p := ⟨gb122, _, none⟩) NB121_122.out _).trans (hHeld.1)))), ((cell_far (p := ⟨gb122, _, none⟩) NB121_122.out _).trans (((cell_far (p := ⟨gb122, _, none⟩) NB121_122.out _).trans (hHeld.2))))⟩ (fun hHeld => ?_)
  clear hK K
  refine done_ (done_of HT_.out (by kernel_rfl)) ?_
  try go_wp2
  refine bodyPost_ret (results_cell_row rfl _ _ gb122 54 #[.int .i64 a0_0, .slice Ao9 y126.length co9] (0, 0) _ rfl (by (with_reducible repeat (first | refine blk_drewN ?_ _ | refine blk_drew ?_ | refine blk_alloc ?_ _)); exact blk_fill2 BK122.out) Try.underlying54 rfl (by kernel_rfl)) rfl ?_
  exact ⟨_, by first | rfl | (simp [errW_none, errW_some] <;> rfl) | (simp [*, errW_none, errW_some] <;> rfl), by exact (Kd.R_farN HO128.out BK122.out), by exact bel0⟩
 ·rw [if_neg c2] at H
  exact absurd H (by simp)

/-! ### spec_l7stop: function 90 -/
def spec_l7stop.f (k : Nat) (a0_0 : Int) (l0_1 : List (S133)) (a1 : Int) : Option (Bool × Int × (List (S133))) := (spec_l7find.f k l0_1 a1).bind fun t129 => (if t129 < 0 then (some (false, a0_0, l0_1)) else ((some (([] : List (S133)) : List (S133))).bind fun y130 => (if 0 ≤ t129 then (if t129 ≤ (l0_1.length : Int) then ((some (l0_1.take (t129 : Int).toNat : List (S133))).bind fun y133 => (if y130.length + y133.length < 8796093022208 then ((some (y130 ++ y133 : List (S133))).bind fun y137 => (if 0 ≤ (wrap64 (t129 + 1)) then (if (wrap64 (t129 + 1)) ≤ (l0_1.length : Int) then ((some (l0_1.drop ((wrap64 (t129 + 1)) : Int).toNat : List (S133))).bind fun y140 => (if y137.length + y140.length < 8796093022208 then (some (true, a0_0, (y137 ++ y140))) else (none))) else (none)) else (none))) else (none))) else (none)) else (none))))
theorem spec_l7stop.mono : ∀ a0 a1 a2 k, LeO (spec_l7stop.f k a0 a1 a2) (spec_l7stop.f (k + 1) a0 a1 a2) := by
 intro a0 a1 a2 k
 unfold spec_l7stop.f
 repeat' first
   | (with_reducible exact spec_l7find.mono _ _ _)
   | (with_reducible exact LeO.refl _)
   | (with_reducible exact LeO.none _)
   | (with_reducible refine LeO.ite ?_ ?_)
   | (with_reducible refine LeO.bind ?_ (fun _ => ?_))
   | exact spec_l7find.mono _ _ _
   | exact LeO.none _
   | refine LeO.ite ?_ ?_
   | refine LeO.bind ?_ (fun _ => ?_)
def spec_l7stop.T4 : Bool × List (List Nat × List Nat) := (true, [([], []), ([], []), ([], []), ([2], [2]), ([3], [3]), ([4], [4]), ([], []), ([5, 6], [5, 6]), ([1, 7], [1, 7]), ([], []), ([9], [9]), ([10], [10]), ([11], [11]), ([], []), ([13], [13]), ([12, 14], [12, 14]), ([8, 15, 8], [8, 15]), ([0, 0, 1, 2, 3, 4, 5, 6, 7, 8, 9, 10, 11, 12, 13, 14, 15, 16], [0]), ([17, 0, 1, 2, 3, 4, 5, 6, 7, 8, 9, 10, 11, 12, 13, 14, 15, 16], [17]), ([18, 16, 16, 0, 1, 2, 3, 4, 5, 6, 7, 8, 9, 10, 11, 12, 13, 14, 15, 16], [16, 18])])
def spec_l7stop.B4 : List Nat := [0, 0, 0, 4, 12, 28, 0, 124, 254, 0, 512, 1536, 3584, 0, 8192, 32256, 65534, 131071, 262143, 524287]
theorem spec_l7stop.tab4 : rtab .any (opsOf Try.f90 4) = spec_l7stop.T4 := by kernel_rfl
theorem spec_l7stop.bits4 : waitsOk spec_l7stop.T4.2 spec_l7stop.B4 = true := by kernel_rfl
set_option maxHeartbeats 8000000 in
set_option maxRecDepth 100000 in
theorem spec_l7stop.calls (k : Nat) (g : Nat) (a0_0 : Int) (P0_1_ : Nat → Prop) (u9000_ : Value) (l0_1 : List (S133)) (a1 : Int) (r1 : Bool) (r2 : Int) (r3 : List (S133)) (w0 w : World) (hB : Below w0.heap.size w0 w) (hbx : w.heap[g]? = some (.cells #[.int .i64 a0_0, u9000_] 54 (0, 0))) (hgx : w0.heap.size ≤ g) (ho0_1 : Kd.R k133 133 w w0.heap.size P0_1_ u9000_ l0_1) (h : spec_l7stop.f k a0_0 l0_1 a1 = some (r1, r2, r3)) :
  Calls Try.prog 90 #[.pointer (some ⟨g, 0, none⟩), .int .i64 a1] w fun e w' => e = .returned (.bool r1) ∧ ∃ v2_ : Value, Kd.R k133 133 w' w0.heap.size (fun k_ => (P0_1_ k_ ∨ w.heap.size ≤ k_)) v2_ r3 ∧ w'.heap[g]? = some (.cells #[.int .i64 r2, v2_] 54 (0, 0)) ∧ Below w0.heap.size w0 w' ∧ Kept w w' (fun k_ => (P0_1_ k_) ∨ k_ = g) := by
 have BK0 := Aside0.mk hbx; have GE0 := Aside0.mk hgx; clear hbx hgx
 have HO0_1 := Aside0.mk (show Kd.R k133 133 w w0.heap.size (fun k_ => (P0_1_ k_ ∨ w.heap.size ≤ k_)) u9000_ l0_1 from Kd.R_mono ho0_1 (fun k_ hk => (.inl hk)))
 have HK := Aside0.mk (Kept.refl w (fun k_ => (P0_1_ k_) ∨ k_ = g))
 have HW0 := Aside0.mk hB.size
 have HB := Aside0.mk hB; clear hB
 have H : ((spec_l7find.f k l0_1 a1).bind fun t129 => (if t129 < 0 then (some (false, a0_0, l0_1)) else ((some (([] : List (S133)) : List (S133))).bind fun y130 => (if 0 ≤ t129 then (if t129 ≤ (l0_1.length : Int) then ((some (l0_1.take (t129 : Int).toNat : List (S133))).bind fun y133 => (if y130.length + y133.length < 8796093022208 then ((some (y130 ++ y133 : List (S133))).bind fun y137 => (if 0 ≤ (wrap64 (t129 + 1)) then (if (wrap64 (t129 + 1)) ≤ (l0_1.length : Int) then ((some (l0_1.drop ((wrap64 (t129 + 1)) : Int).toNat : List (S133))).bind fun y140 => (if y137.length + y140.length < 8796093022208 then (some (true, a0_0, (y137 ++ y140))) else (none))) else (none)) else (none))) else (none))) else (none)) else (none))))) = some (r1, r2, r3) := h
 clear h; replace H := Option.bind_eq_some_iff.mp H; obtain ⟨t129, A30, H⟩ := H; have A3 := Aside0.mk A30; clear A30; obtain ⟨hcz4_0, hcz4_1⟩ := blkz2 BK0.out; have hfz4_0 := blkf BK0.out
 obtain ⟨Ao5, co5, eo5⟩ := Kd.R_slice HO0_1.out
 subst eo5; go_enter Try.func90, Try.ntmps90
 replace H := Aside0.mk H
 go_wp2_with (first | ((with_reducible refine gate_callee (f := 137) rfl ?_); refine goesL_ (some 11) rfl rfl Try.func137 (by kernel_rfl) rfl #[.slice Ao5 l0_1.length co5, .int .i64 a1] rfl (by (try simp only [List.map_toArray, List.map_cons, List.map_nil]); first | done | rfl | (simp only [List.length_drop, List.length_take]; rfl)) ?_; (with_reducible refine (spec_l7find.calls k _ _ l0_1 a1 t129 _ ?side1 ?side2 A3.out).mono ?_); (case side1 => repeat (first | exact (Kd.R_reads' HO0_1.out).2.2 | (with_reducible refine Kd.C_alloc ?_ _) | (with_reducible refine Kd.C_drewN ?_ _) | (with_reducible refine Kd.C_drew ?_))); (case side2 => exact (Kd.R_reads' HO0_1.out).2.1); rintro e w' ⟨rfl, ⟨nd, rfl⟩⟩; refine ⟨_, rfl, ?_⟩; rw [drewN_self w]; generalize hq_ : World.drewN w _ = w6; have n0_ : Aside0 (Kd.R k133 133 w6 w0.heap.size (fun k_ => (P0_1_ k_ ∨ w.heap.size ≤ k_)) (.slice Ao5 l0_1.length co5) l0_1) := ⟨by rw [← hq_]; exact (by exact Kd.R_nw HO0_1.out)⟩; have n1_ : Aside0 (w6.heap[g]? = some (.cells #[.int .i64 a0_0, .slice Ao5 l0_1.length co5] 54 (0, 0))) := ⟨by rw [← hq_]; exact (by exact blk_nw BK0.out)⟩; have n2_ : Aside0 (Kept w w6 (fun k_ => (P0_1_ k_) ∨ k_ = g)) := ⟨by rw [← hq_]; exact (by exact kpt)⟩; have n3_ : Aside0 (Below w0.heap.size w0 w6) := ⟨by rw [← hq_]; exact (by exact bel0)⟩; clear HO0_1 BK0 HK HB hq_; have HO0_1 := n0_; have BK0 := n1_; have HK := n2_; have HB := n3_; clear n0_ n1_ n2_ n3_; refine Stop.out ?_))
 refine Stop.mk ?_
 replace H := H.out
 by_cases c7 : t129 < 0
 ·rw [if_pos c7] at H; have c7b0 : decide (t129 < 0) = true := decide_eq_true c7; clear c7; (try simp only [c7b0]); simp only [Option.some.injEq, Prod.mk.injEq] at H; obtain ⟨rfl, rfl, rfl⟩ := H
  go_wp2
  go_ret
  exact ⟨by first | rfl | (simp [errW_none, errW_some] <;> rfl) | (simp [*, errW_none, errW_some] <;> rfl), (.slice Ao5 l0_1.length co5), by exact Kd.R_nw HO0_1.out, by exact blk_nw BK0.out, by exact bel0, by exact kpt⟩
 ·rw [if_neg c7] at H; have c7b0 : decide (t129 < 0) = false := decide_eq_false c7; clear c7; (try simp only [c7b0])
  obtain ⟨y130, hy130⟩ : ∃ y_ : List (S133), y_ = (([] : List (S133))) := ⟨_, rfl⟩
  replace H : (if 0 ≤ t129 then (if t129 ≤ (l0_1.length : Int) then ((some (l0_1.take (t129 : Int).toNat : List (S133))).bind fun y133 => (if y130.length + y133.length < 8796093022208 then ((some (y130 ++ y133 : List (S133))).bind fun y137 => (if 0 ≤ (wrap64 (t129 + 1)) then (if (wrap64 (t129 + 1)) ≤ (l0_1.length : Int) then ((some (l0_1.drop ((wrap64 (t129 + 1)) : Int).toNat : List (S133))).bind fun y140 => (if y137.length + y140.length < 8796093022208 then (some (true, a0_0, (y137 ++ y140))) else (none))) else (none)) else (none))) else (none))) else (none)) else (none)) = some (r1, r2, r3) := by first | (rw [hy130]; with_reducible exact H) | (have H2_ := (Option.bind_some _ _).symm.trans H; rw [hy130]; with_reducible exact H2_) | (have H2_ := (Option.bind_some _ _).symm.trans H; with_reducible exact H2_) | with_reducible exact H | (rw [hy130]; exact H) | exact H
  have Ny130 := Aside0.mk hy130; clear hy130
  by_cases c8 : 0 ≤ t129
  ·rw [if_pos c8] at H
   have c8b0 := eq_true c8
   have c8b1 : decide (0 ≤ t129) = true := decide_eq_true c8; clear c8
   by_cases c9 : t129 ≤ (l0_1.length : Int)
   ·rw [if_pos c9] at H
    have c9b0 := eq_true c9
    have c9b1 : decide (t129 ≤ (l0_1.length : Int)) = true := decide_eq_true c9
    clear c9
    obtain ⟨y133, hy133⟩ : ∃ y_ : List (S133), y_ = (l0_1.take (t129 : Int).toNat) := ⟨_, rfl⟩
    replace H : (if y130.length + y133.length < 8796093022208 then ((some (y130 ++ y133 : List (S133))).bind fun y137 => (if 0 ≤ (wrap64 (t129 + 1)) then (if (wrap64 (t129 + 1)) ≤ (l0_1.length : Int) then ((some (l0_1.drop ((wrap64 (t129 + 1)) : Int).toNat : List (S133))).bind fun y140 => (if y137.length + y140.length < 8796093022208 then (some (true, a0_0, (y137 ++ y140))) else (none))) else (none)) else (none))) else (none)) = some (r1, r2, r3) := by first | (rw [hy133]; with_reducible exact H) | (have H2_ := (Option.bind_some _ _).symm.trans H; rw [hy133]; with_reducible exact H2_) | (have H2_ := (Option.bind_some _ _).symm.trans H; with_reducible exact H2_) | with_reducible exact H | (rw [hy133]; exact H) | exact H
    have Ny133 := Aside0.mk hy133; clear hy133
    by_cases c10 : y130.length + y133.length < 8796093022208
    ·rw [if_pos c10] at H; have LMc10 := Aside0.mk c10; clear c10
     obtain ⟨y137, hy137⟩ : ∃ y_ : List (S133), y_ = (y130 ++ y133) := ⟨_, rfl⟩
     replace H : (if 0 ≤ (wrap64 (t129 + 1)) then (if (wrap64 (t129 + 1)) ≤ (l0_1.length : Int) then ((some (l0_1.drop ((wrap64 (t129 + 1)) : Int).toNat : List (S133))).bind fun y140 => (if y137.length + y140.length < 8796093022208 then (some (true, a0_0, (y137 ++ y140))) else (none))) else (none)) else (none)) = some (r1, r2, r3) := by first | (rw [hy137]; with_reducible exact H) | (have H2_ := (Option.bind_some _ _).symm.trans H; rw [hy137]; with_reducible exact H2_) | (have H2_ := (Option.bind_some _ _).symm.trans H; with_reducible exact H2_) | with_reducible exact H | (rw [hy137]; exact H) | exact H
     have Ny137 := Aside0.mk hy137; clear hy137
     obtain ⟨ji11, hji11⟩ : ∃ j_ : Int, (wrap64 (t129 + 1)) = j_ := ⟨_, rfl⟩
     replace H : (if 0 ≤ (ji11) then (if (ji11) ≤ (l0_1.length : Int) then ((some (l0_1.drop ((ji11) : Int).toNat : List (S133))).bind fun y140 => (if y137.length + y140.length < 8796093022208 then (some (true, a0_0, (y137 ++ y140))) else (none))) else (none)) else (none)) = some (r1, r2, r3) := by first | (rw [hji11] at H; exact H) | (simp only [hji11] at H ⊢; exact H)
     have hji11w : (IntKind.i64.wrap (t129 + 1)) = ji11 := (i64_w _).trans hji11
     by_cases c12 : 0 ≤ (ji11)
     ·rw [if_pos c12] at H
      have c12b0 := eq_true c12
      have c12b1 : decide (0 ≤ (ji11)) = true := decide_eq_true c12; clear c12
      by_cases c13 : (ji11) ≤ (l0_1.length : Int)
      ·rw [if_pos c13] at H
       have c13b0 := eq_true c13
       have c13b1 : decide ((ji11) ≤ (l0_1.length : Int)) = true := decide_eq_true c13
       clear c13
       obtain ⟨y140, hy140⟩ : ∃ y_ : List (S133), y_ = (l0_1.drop ((ji11) : Int).toNat) := ⟨_, rfl⟩
       replace H : (if y137.length + y140.length < 8796093022208 then (some (true, a0_0, (y137 ++ y140))) else (none)) = some (r1, r2, r3) := by first | (rw [hy140]; with_reducible exact H) | (have H2_ := (Option.bind_some _ _).symm.trans H; rw [hy140]; with_reducible exact H2_) | (have H2_ := (Option.bind_some _ _).symm.trans H; with_reducible exact H2_) | with_reducible exact H | (rw [hy140]; exact H) | exact H
       have Ny140 := Aside0.mk hy140; clear hy140
       by_cases c14 : y137.length + y140.length < 8796093022208
       ·rw [if_pos c14] at H; have LMc14 := Aside0.mk c14; clear c14
        obtain ⟨y144, hy144⟩ : ∃ y_ : List (S133), y_ = (y137 ++ y140) := ⟨_, rfl⟩
        replace H : (some (true, a0_0, y144)) = some (r1, r2, r3) := by first | (rw [hy144]; with_reducible exact H) | (have H2_ := (Option.bind_some _ _).symm.trans H; rw [hy144]; with_reducible exact H2_) | (have H2_ := (Option.bind_some _ _).symm.trans H; with_reducible exact H2_) | with_reducible exact H | (rw [hy144]; exact H) | exact H
        have Ny144 := Aside0.mk hy144; clear hy144; simp only [Option.some.injEq, Prod.mk.injEq] at H; obtain ⟨rfl, rfl, rfl⟩ := H
        try go_wp2
        have n_ := an (Kd.R_drew HO0_1.out) (an (blk_drew BK0.out) (an (Kept.drew HK.out) (an (below_drew1 HB.out) (trivial))))
        clear HO0_1 BK0 HK HB
        obtain ⟨HO0_1, BK0, HK, HB, -⟩ := n_
        have q16 : (t129 : Int) ≤ ((l0_1.length : Int) : Int) := of_decide_eq_true (by first | (with_reducible assumption) | assumption)
        obtain ⟨i016, hi016, _, hsz16, _⟩ := info_parts info133
        have hroom16 : l0_1.length ≤ co5 := (Kd.R_reads' HO0_1.out).2.1
        have hC16 : Kd.C k133 _ Ao5 l0_1.length l0_1 := (Kd.R_reads' HO0_1.out).2.2
        have hcut16 := cut_to (P := Try.prog) 52 133 .i64 Try.underlying52 hi016 Ao5 l0_1.length co5 t129 (of_decide_eq_true (by first | (with_reducible assumption) | assumption)) q16 hroom16
        have hr16 := Kd.C_take (m := (t129 : Int).toNat) hC16 (by omega)
        have hy16 : y133.length = (t129 : Int).toNat := (by rw [Ny133.out, List.length_take]; omega)
        rw [← Ny133.out] at hr16
        rw [← hy16] at hcut16
        have HR136 := Aside0.mk hr16
        have HC136 := Aside0.mk (show y133.length ≤ co5 from by omega)
        clear hr16 hC16 hroom16 hi016 hsz16; have KY16 := Aside0.mk hy16; clear hy16
        have KL16 := Aside0.mk (show (t129 : Int).toNat ≤ l0_1.length from by omega)
        replace q16 := eq_true q16
        have q17 : ((ji11) : Int) ≤ ((l0_1.length : Int) : Int) := of_decide_eq_true (by first | (with_reducible assumption) | assumption)
        obtain ⟨i017, hi017, _, hsz17, _⟩ := info_parts info133
        have hroom17 : l0_1.length ≤ co5 := (Kd.R_reads' HO0_1.out).2.1
        have hC17 : Kd.C k133 _ Ao5 l0_1.length l0_1 := (Kd.R_reads' HO0_1.out).2.2
        have q017 : (0 : Int) ≤ ((ji11) : Int) := of_decide_eq_true (by first | (with_reducible assumption) | assumption)
        have hcut17 := cut_from (P := Try.prog) 52 133 .i64 Try.underlying52 hi017 2 hsz17 Ao5 l0_1.length co5 (ji11) q017 q17
        have hr17 := Kd.C_drop (m := ((ji11) : Int).toNat) (c := co5) hC17 (by omega) hroom17
        obtain ⟨A17, hA17⟩ : ∃ A1, A1 = (if co5 = ((ji11) : Int).toNat then Ao5 else (Ao5 : Option Addr).map (·.add (((ji11) : Int).toNat * 2))) := ⟨_, rfl⟩
        obtain ⟨c17, hc17⟩ : ∃ c1, c1 = co5 - ((ji11) : Int).toNat := ⟨_, rfl⟩
        have hy17 : y140.length = l0_1.length - ((ji11) : Int).toNat := (by rw [Ny140.out, List.length_drop] <;> omega)
        rw [show (l0_1).drop ((ji11) : Int).toNat = y140 from Ny140.out.symm] at hr17
        replace hr17 : Kd.C k133 _ A17 y140.length y140 := (by rw [hA17]; exact hr17)
        rw [← hy17, ← hA17, ← hc17] at hcut17
        have HR143 := Aside0.mk hr17
        have HC143 := Aside0.mk (show y140.length ≤ c17 from by rw [hy17, hc17]; exact Nat.sub_le_sub_right hroom17 _)
        clear hr17 hC17 hroom17 hi017 hsz17 hc17; have KY17 := Aside0.mk hy17; have KA17 := Aside0.mk hA17; clear hy17 hA17
        have KL17 := Aside0.mk (show ((ji11) : Int).toNat ≤ l0_1.length from by omega)
        replace q17 := eq_true q17
        refine start_ (n := 20) (S := fun w' => w'.cell? ⟨g, 0, none⟩ = some (.int .i64 a0_0) ∧ w'.cell? ⟨g, 1, none⟩ = some (.slice Ao5 l0_1.length co5)) (ds := [19]) #[false, false, false, false, false, false, false, false, false, false, false, false, false, false, false, false, false, false, false, false] (by kernel_rfl) rfl rfl ⟨(blk_cell BK0.out 0).trans rfl, (blk_cell BK0.out 1).trans rfl⟩ (fun hHeld => ?_); refine with_tabW spec_l7stop.tab4 spec_l7stop.bits4 (fun HT_ HW_ => ?_)
        generalize w6.drew = w15 at HO0_1 BK0 HK HB HR136 HR143 hHeld ⊢
        refine pure_ (i := 0) (N := some 14) (v := ?_) (a' := ?_) #[true, false, false, false, false, false, false, false, false, false, false, false, false, false, false, false, false, false, false, false] rfl rfl (any_of HT_.out (by kernel_rfl)) (fun _ _ _ h => h) (Or.inl ⟨by rfl, ?_⟩) ?_ ?_
        rotate_left
        ·intro w'
         go_simp
         with_reducible rfl
        rotate_left
        ·simp only [Act.put, List.setIfInBounds_toArray, List.set_cons_zero, List.set_cons_succ, i64_w, i32_w]
         rfl
        refine pure_ (i := 2) (N := some 16) (v := ?_) (a' := ?_) #[true, false, true, false, false, false, false, false, false, false, false, false, false, false, false, false, false, false, false, false] rfl rfl (any_of HT_.out (by kernel_rfl)) (fun _ _ _ h => h) (Or.inl ⟨by rfl, ?_⟩) ?_ ?_
        rotate_left
        ·intro w'
         go_simp
         with_reducible rfl
        rotate_left
        ·simp only [Act.put, List.setIfInBounds_toArray, List.set_cons_zero, List.set_cons_succ, i64_w, i32_w]
         rfl
        refine pure_ (i := 3) (N := some 17) (v := ?_) (a' := ?_) #[true, false, true, true, false, false, false, false, false, false, false, false, false, false, false, false, false, false, false, false] rfl rfl (any_of HT_.out (by kernel_rfl)) (fun _ _ _ h => h) (Or.inl ⟨by rfl, ?_⟩) ?_ ?_
        rotate_left
        ·intro w'
         go_simp
         with_reducible rfl
        rotate_left
        ·simp only [Act.put, List.setIfInBounds_toArray, List.set_cons_zero, List.set_cons_succ, i64_w, i32_w]
         rfl
        refine pure_ (i := 4) (N := some 18) (v := ?_) (a' := ?_) #[true, false, true, true, true, false, false, false, false, false, false, false, false, false, false, false, false, false, false, false] rfl rfl (any_of HT_.out (by kernel_rfl)) (fun _ _ _ h => h) (Or.inl ⟨by rfl, ?_⟩) ?_ ?_
        rotate_left
        ·intro w'
         go_simp
         with_reducible rfl
        rotate_left
        ·simp only [Act.put, List.setIfInBounds_toArray, List.set_cons_zero, List.set_cons_succ, i64_w, i32_w]
         rfl
        refine pure_ (i := 6) (N := some 20) (v := ?_) (a' := ?_) #[true, false, true, true, true, false, true, false, false, false, false, false, false, false, false, false, false, false, false, false] rfl rfl (any_of HT_.out (by kernel_rfl)) (fun _ _ _ h => h) (Or.inl ⟨by rfl, ?_⟩) ?_ ?_
        rotate_left
        ·intro w'
         go_simp
         with_reducible rfl
        rotate_left
        ·simp only [Act.put, List.setIfInBounds_toArray, List.set_cons_zero, List.set_cons_succ, i64_w, i32_w]
         rfl
        refine pure_ (i := 9) (N := some 23) (v := ?_) (a' := ?_) #[true, false, true, true, true, false, true, false, false, true, false, false, false, false, false, false, false, false, false, false] rfl rfl (any_of HT_.out (by kernel_rfl)) (fun _ _ _ h => h) (Or.inl ⟨by rfl, ?_⟩) ?_ ?_
        rotate_left
        ·intro w'
         go_simp
         with_reducible rfl
        rotate_left
        ·simp only [Act.put, List.setIfInBounds_toArray, List.set_cons_zero, List.set_cons_succ, i64_w, i32_w]
         rfl
        refine pure_ (i := 10) (N := some 24) (v := ?_) (a' := ?_) #[true, false, true, true, true, false, true, false, false, true, true, false, false, false, false, false, false, false, false, false] rfl rfl (any_of HT_.out (by kernel_rfl)) (fun _ _ _ h => h) (Or.inl ⟨by rfl, ?_⟩) ?_ ?_
        rotate_left
        ·intro w'
         go_simp
         with_reducible rfl
        rotate_left
        ·simp only [Act.put, List.setIfInBounds_toArray, List.set_cons_zero, List.set_cons_succ, i64_w, i32_w]
         rfl
        refine pure_ (i := 11) (N := some 25) (v := ?_) (a' := ?_) #[true, false, true, true, true, false, true, false, false, true, true, true, false, false, false, false, false, false, false, false] rfl rfl (any_of HT_.out (by kernel_rfl)) (fun _ _ _ h => h) (Or.inl ⟨by rfl, ?_⟩) ?_ ?_
        rotate_left
        ·intro w'
         go_simp
         with_reducible rfl
        rotate_left
        ·simp only [Act.put, List.setIfInBounds_toArray, List.set_cons_zero, List.set_cons_succ, i64_w, i32_w]
         rfl
        refine pure_ (i := 13) (N := some 27) (v := ?_) (a' := ?_) #[true, false, true, true, true, false, true, false, false, true, true, true, false, true, false, false, false, false, false, false] rfl rfl (any_of HT_.out (by kernel_rfl)) (fun _ _ _ h => h) (Or.inl ⟨by rfl, ?_⟩) ?_ ?_
        rotate_left
        ·intro w'
         go_simp
         with_reducible rfl
        rotate_left
        ·simp only [Act.put, List.setIfInBounds_toArray, List.set_cons_zero, List.set_cons_succ, i64_w, i32_w]
         rfl
        refine pure_ (i := 14) (N := some 28) (v := ?_) (a' := ?_) #[true, false, true, true, true, false, true, false, false, true, true, true, false, true, true, false, false, false, false, false] rfl rfl (any_of HT_.out (by kernel_rfl)) (fun _ _ _ h => h) (Or.inl ⟨by rfl, ?_⟩) ?_ ?_
        rotate_left
        ·intro w'
         go_simp
         with_reducible rfl
        rotate_left
        ·simp only [Act.put, List.setIfInBounds_toArray, List.set_cons_zero, List.set_cons_succ, i64_w, i32_w]
         rfl
        refine take_ (i := 5) (N := some 19) (v := ?_) (a' := ?_) #[true, false, true, true, true, true, true, false, false, true, true, true, false, true, true, false, false, false, false, false] rfl rfl (take_ofW HT_.out HW_.out (by kernel_rfl)) (fun _ _ _ h => h) (Or.inl ⟨by rfl, ?_⟩) hHeld ?_ ?_
        rotate_left
        ·rintro w' ⟨s0, s1⟩
         go_simp
         with_reducible rfl
        rotate_left
        ·simp only [Act.put, List.setIfInBounds_toArray, List.set_cons_zero, List.set_cons_succ, i64_w, i32_w]
         rfl
        refine pure_ (i := 7) (N := some 21) (v := ?_) (a' := ?_) #[true, false, true, true, true, true, true, true, false, true, true, true, false, true, true, false, false, false, false, false] rfl rfl (any_of HT_.out (by kernel_rfl)) (fun _ _ _ h => h) (Or.inl ⟨by rfl, ?_⟩) ?_ ?_
        rotate_left
        ·intro w'
         go_simp
         with_reducible rfl
        rotate_left
        ·simp only [Act.put, List.setIfInBounds_toArray, List.set_cons_zero, List.set_cons_succ, i64_w, i32_w]
         rfl
        refine take_ (i := 12) (N := some 26) (v := ?_) (a' := ?_) #[true, false, true, true, true, true, true, true, false, true, true, true, true, true, true, false, false, false, false, false] rfl rfl (take_ofW HT_.out HW_.out (by kernel_rfl)) (fun _ _ _ h => h) (Or.inl ⟨by rfl, ?_⟩) hHeld ?_ ?_
        rotate_left
        ·rintro w' ⟨s0, s1⟩
         go_simp
         with_reducible rfl
        rotate_left
        ·simp only [Act.put, List.setIfInBounds_toArray, List.set_cons_zero, List.set_cons_succ, i64_w, i32_w]
         rfl
        refine pure_ (i := 15) (N := some 29) (v := ?_) (a' := ?_) #[true, false, true, true, true, true, true, true, false, true, true, true, true, true, true, true, false, false, false, false] rfl rfl (any_of HT_.out (by kernel_rfl)) (fun _ _ _ h => h) (Or.inl ⟨by rfl, ?_⟩) ?_ ?_
        rotate_left
        ·intro w'
         go_simp
         with_reducible rfl
        rotate_left
        ·simp only [Act.put, List.setIfInBounds_toArray, List.set_cons_zero, List.set_cons_succ, i64_w, i32_w]
         rfl
        refine one_ (i := 1) (N := some 15) #[true, true, true, true, true, true, true, true, false, true, true, true, true, true, true, true, false, false, false, false] rfl rfl (one_of HT_.out (by kernel_rfl)) (by decide) (fun K hK => ?_)
        refine Kd.R_lit_step k133 _ 133 ?hg (N := 15) ?hd (xs := ([] : List (S133))) (inner := []) (ok := fun _ => True) (okp := fun _ => True) ?hr ?hp (fun _ hk => hk) trivial (Below.refl _ _) (Nat.le_refl _) (by simp) ?_; (case hd => rfl); (case hg => rfl); (case hr => first | (go_simp; done) | (go_simp; rfl)); (case hp => exact (Reps.none _ _))
        intro v131 w18 ho19 hb hg_ hnew_
        clear hg_ hnew_
        (first | rw [← Ny130.out] at ho19 | (simp only [Int.reduceToNat] at ho19; rw [← Ny130.out] at ho19))
        have n_ := an (Kd.R_elder' (by exact Kd.R_nw HO0_1.out) (Kd.R_base ho19) hb) (an (Kd.R_lower (Kd.R_new' (Kd.R_newM (M := fun k_ => (P0_1_ k_ ∨ w.heap.size ≤ k_)) ho19 (by first | exact HK.out.1 | exact (show Kept w _ (fun k_ => (P0_1_ k_) ∨ k_ = g) from by exact kpt).1) (fun k_ h_ => .inr h_)) (Kd.R_lt (by exact Kd.R_nw HO0_1.out))) (below_size (by exact bel0))) (an (blk_below (blk_nw BK0.out) hb) (an (Kd.C_below (by repeat (first | (with_reducible exact HR136.out) | (with_reducible refine Kd.C_alloc ?_ _) | (with_reducible refine Kd.C_drewN ?_ _) | (with_reducible refine Kd.C_drew ?_) | exact HR136.out)) hb) (an (Kd.C_below (by repeat (first | (with_reducible exact HR143.out) | (with_reducible refine Kd.C_alloc ?_ _) | (with_reducible refine Kd.C_drewN ?_ _) | (with_reducible refine Kd.C_drew ?_) | exact HR143.out)) hb) (an (Kept.below (S := (fun k_ => (P0_1_ k_) ∨ k_ = g)) (by exact kpt) hb) (an (below_step (by exact bel0) hb) (trivial)))))))
        clear HO0_1 BK0 HR136 HR143 HK HB
        obtain ⟨HO0_1, HO132, BK0, HR136, HR143, HK, HB, -⟩ := n_
        clear hb ho19
        refine hK.out _ _ ⟨(blk_cell BK0.out 0).trans rfl, (blk_cell BK0.out 1).trans rfl⟩ (fun hHeld => ?_)
        clear hK K
        refine norm_ (a' := ?_) ?_ ?_
        rotate_left
        ·show Act.put _ (some 15) _ = _
         simp only [Act.put, List.setIfInBounds_toArray, List.set_cons_zero, List.set_cons_succ, i64_w, i32_w]
         rfl
        refine one_ (i := 8) (N := some 22) #[true, true, true, true, true, true, true, true, true, true, true, true, true, true, true, true, false, false, false, false] rfl rfl (one_of HT_.out (by kernel_rfl)) (by decide) (fun K hK => ?_)
        refine Kd.R_append_rows_step k133 (w0 := w0) w0.heap.size (by rfl) (.tmp 15) (.tmp 21) 52 133 (.agg #[(.int .i64 0), (.int .i64 0)]) 16 rfl Try.underlying52 info133 rfl (by decide) (by omega) v131 y130 y133 _ _ _ (fun k_ => (P0_1_ k_ ∨ w.heap.size ≤ k_) ∧ some k_ ≠ (.slice Ao5 l0_1.length co5 : Value).ownBlock) (fun _ => False) rfl rfl ?aO ?aR (fun _ _ h => h) (fun _ h => h.elim) ?aF ?aB ?aS ?aL ?_
        (case aR => repeat (first | exact (by repeat (first | (with_reducible exact HR136.out) | (with_reducible refine Kd.C_alloc ?_ _) | (with_reducible refine Kd.C_drewN ?_ _) | (with_reducible refine Kd.C_drew ?_) | exact HR136.out)) | (with_reducible refine Kd.C_alloc ?_ _) | (with_reducible refine Kd.C_drewN ?_ _) | (with_reducible refine Kd.C_drew ?_)))
        (case aB => exact (by exact bel0))
        (case aF => exact (fun k_ hk => ⟨(.inr (Nat.le_trans (by first | exact HK.out.1 | exact (show Kept w _ (fun k_ => (P0_1_ k_) ∨ k_ = g) from by exact kpt).1) hk)), Kd.fresh' (Kd.R_lt (by exact Kd.R_nw HO0_1.out)) k_ hk⟩))
        (case aO => exact (by exact Kd.R_nw (Kd.R_mono HO132.out (fun _ hk => ⟨hk.1.1, hk.2⟩))))
        (case aS => exact (below_size (by exact bel0)))
        (case aL => have := LMc10.out; omega)
        intro v138 w20 ho hb hg hat
        rw [← Ny137.out] at ho
        have n_ := an (Kd.R_after (ok := (fun k_ => (P0_1_ k_ ∨ w.heap.size ≤ k_))) (by exact Kd.R_nw HO0_1.out) hg hat) (an (blk_grown (blk_nw BK0.out) hg (Kd.R_ne HO132.out BK0.out (by decide))) (an (hb) (an (Kept.of_grown (S := (fun k_ => (P0_1_ k_) ∨ k_ = g)) hg (by exact kpt) (fun k_ e_ => Or.imp_left Or.inl ((HO132.out.1 k_ e_).1.1))) (an ((show Kd.C k133 w20 Ao5 y133.length y133 from by rw [Ny133.out]; exact Kd.C_take (m := (t129 : Int).toNat) ((Kd.R_reads' (Kd.R_after (ok := (fun k_ => (P0_1_ k_ ∨ w.heap.size ≤ k_))) (by exact Kd.R_nw HO0_1.out) hg hat)).2.2) KL16.out)) (an ((show Kd.C k133 w20 A17 y140.length y140 from by rw [Ny140.out, KA17.out]; exact Kd.C_drop (m := ((ji11) : Int).toNat) (c := co5) ((Kd.R_reads' (Kd.R_after (ok := (fun k_ => (P0_1_ k_ ∨ w.heap.size ≤ k_))) (by exact Kd.R_nw HO0_1.out) hg hat)).2.2) KL17.out ((Kd.R_reads' (Kd.R_after (ok := (fun k_ => (P0_1_ k_ ∨ w.heap.size ≤ k_))) (by exact Kd.R_nw HO0_1.out) hg hat)).2.1))) (an (ho) (trivial)))))))
        clear HO0_1 BK0 HB HK HR136 HR143 HO132
        obtain ⟨HO0_1, BK0, HB, HK, HR136, HR143, HO139, -⟩ := n_
        clear ho hb hg hat
        refine hK.out _ _ ⟨(blk_cell BK0.out 0).trans rfl, (blk_cell BK0.out 1).trans rfl⟩ (fun hHeld => ?_)
        clear hK K
        refine norm_ (a' := ?_) ?_ ?_
        rotate_left
        ·show Act.put _ (some 22) _ = _
         simp only [Act.put, List.setIfInBounds_toArray, List.set_cons_zero, List.set_cons_succ, i64_w, i32_w]
         rfl
        refine one_ (i := 16) (N := some 30) #[true, true, true, true, true, true, true, true, true, true, true, true, true, true, true, true, true, false, false, false] rfl rfl (one_of HT_.out (by kernel_rfl)) (by decide) (fun K hK => ?_)
        refine Kd.R_append_rows_step k133 (w0 := w0) w0.heap.size (by rfl) (.tmp 22) (.tmp 29) 52 133 (.agg #[(.int .i64 0), (.int .i64 0)]) 16 rfl Try.underlying52 info133 rfl (by decide) (by omega) v138 y137 y140 _ _ _ (fun k_ => (P0_1_ k_ ∨ w.heap.size ≤ k_) ∧ some k_ ≠ (.slice Ao5 l0_1.length co5 : Value).ownBlock) (fun _ => False) rfl rfl ?aO ?aR (fun _ _ h => h) (fun _ h => h.elim) ?aF ?aB ?aS ?aL ?_
        (case aR => repeat (first | exact (by repeat (first | (with_reducible exact HR143.out) | (with_reducible refine Kd.C_alloc ?_ _) | (with_reducible refine Kd.C_drewN ?_ _) | (with_reducible refine Kd.C_drew ?_) | exact HR143.out)) | (with_reducible refine Kd.C_alloc ?_ _) | (with_reducible refine Kd.C_drewN ?_ _) | (with_reducible refine Kd.C_drew ?_)))
        (case aB => exact (by exact bel0))
        (case aF => exact (fun k_ hk => ⟨(.inr (Nat.le_trans (by first | exact HK.out.1 | exact (show Kept w _ (fun k_ => (P0_1_ k_) ∨ k_ = g) from by exact kpt).1) hk)), Kd.fresh' (Kd.R_lt (by exact Kd.R_nw HO0_1.out)) k_ hk⟩))
        (case aO => exact (by exact Kd.R_nw HO139.out))
        (case aS => exact (below_size (by exact bel0)))
        (case aL => have := LMc14.out; omega)
        intro v145 w21 ho hb hg hat
        rw [← Ny144.out] at ho
        have n_ := an (Kd.R_after (ok := (fun k_ => (P0_1_ k_ ∨ w.heap.size ≤ k_))) (by exact Kd.R_nw HO0_1.out) hg hat) (an (blk_grown (blk_nw BK0.out) hg (Kd.R_ne HO139.out BK0.out (by decide))) (an (hb) (an (Kept.of_grown (S := (fun k_ => (P0_1_ k_) ∨ k_ = g)) hg (by exact kpt) (fun k_ e_ => Or.imp_left Or.inl ((HO139.out.1 k_ e_).1))) (an ((show Kd.C k133 w21 Ao5 y133.length y133 from by rw [Ny133.out]; exact Kd.C_take (m := (t129 : Int).toNat) ((Kd.R_reads' (Kd.R_after (ok := (fun k_ => (P0_1_ k_ ∨ w.heap.size ≤ k_))) (by exact Kd.R_nw HO0_1.out) hg hat)).2.2) KL16.out)) (an ((show Kd.C k133 w21 A17 y140.length y140 from by rw [Ny140.out, KA17.out]; exact Kd.C_drop (m := ((ji11) : Int).toNat) (c := co5) ((Kd.R_reads' (Kd.R_after (ok := (fun k_ => (P0_1_ k_ ∨ w.heap.size ≤ k_))) (by exact Kd.R_nw HO0_1.out) hg hat)).2.2) KL17.out ((Kd.R_reads' (Kd.R_after (ok := (fun k_ => (P0_1_ k_ ∨ w.heap.size ≤ k_))) (by exact Kd.R_nw HO0_1.out) hg hat)).2.1))) (an (ho) (trivial)))))))
        clear HO0_1 BK0 HB HK HR136 HR143 HO139
        obtain ⟨HO0_1, BK0, HB, HK, HR136, HR143, HO146, -⟩ := n_
        clear ho hb hg hat
        obtain ⟨Ao22, co22, eo22⟩ := Kd.R_slice HO146.out
        (first | subst eo22 | (injection eo22 with f1_ f2_ f3_; have f4_ := f1_.symm; have f5_ := f3_.symm; clear f1_ f2_ f3_; subst f4_; subst f5_))
        refine hK.out _ _ ⟨(blk_cell BK0.out 0).trans rfl, (blk_cell BK0.out 1).trans rfl⟩ (fun hHeld => ?_)
        clear hK K
        refine norm_ (a' := ?_) ?_ ?_
        rotate_left
        ·show Act.put _ (some 30) _ = _
         simp only [Act.put, List.setIfInBounds_toArray, List.set_cons_zero, List.set_cons_succ, i64_w, i32_w]
         rfl
        refine pure_ (i := 17) (N := some 31) (v := ?_) (a' := ?_) #[true, true, true, true, true, true, true, true, true, true, true, true, true, true, true, true, true, true, false, false] rfl rfl (any_of HT_.out (by kernel_rfl)) (fun _ _ _ h => h) (Or.inl ⟨by rfl, ?_⟩) ?_ ?_
        rotate_left
        ·intro w'
         go_simp
         with_reducible rfl
        rotate_left
        ·simp only [Act.put, List.setIfInBounds_toArray, List.set_cons_zero, List.set_cons_succ, i64_w, i32_w]
         rfl
        refine pure_ (i := 18) (N := some 32) (v := ?_) (a' := ?_) #[true, true, true, true, true, true, true, true, true, true, true, true, true, true, true, true, true, true, true, false] rfl rfl (any_of HT_.out (by kernel_rfl)) (fun _ _ _ h => h) (Or.inl ⟨by rfl, ?_⟩) ?_ ?_
        rotate_left
        ·intro w'
         go_simp
         with_reducible rfl
        rotate_left
        ·simp only [Act.put, List.setIfInBounds_toArray, List.set_cons_zero, List.set_cons_succ, i64_w, i32_w]
         rfl
        refine last_ (i := 19) (N := none) #[true, true, true, true, true, true, true, true, true, true, true, true, true, true, true, true, true, true, true, true] rfl rfl (one_of HT_.out (by kernel_rfl)) (by decide) (fun K hK => ?_)
        have hs23 : w21.cell? ⟨g, 1, none⟩ = some (.slice Ao5 l0_1.length co5) := (blk_cell BK0.out 1).trans rfl
        have hfs23 := blk_frozen BK0.out 1
        refine skip_ (w1 := ?_) (by rfl) rfl ?_ ?_
        rotate_left
        ·go_simp
         rfl
        refine hK.out _ _ ?_
        clear hK K
        refine done_ (done_of HT_.out (by kernel_rfl)) ?_
        try go_wp2
        go_ret
        exact ⟨by first | rfl | (simp [errW_none, errW_some] <;> rfl) | (simp only [← hji11]; first | rfl | (simp [errW_none, errW_some] <;> rfl)) | (simp [*, errW_none, errW_some] <;> rfl), (.slice Ao22 y144.length co22), by exact Kd.R_mono (Kd.R_farN HO146.out BK0.out) (fun _ hk => hk.1), by (with_reducible repeat (first | refine blk_drewN ?_ _ | refine blk_drew ?_ | refine blk_alloc ?_ _)); refine blk_put (cs := #[.int .i64 a0_0, .slice Ao5 l0_1.length co5]) ?_ 1 _ rfl; (with_reducible repeat (first | refine blk_drewN ?_ _ | refine blk_drew ?_ | refine blk_alloc ?_ _)); exact BK0.out, by exact bel0, by exact kpt⟩
       ·rw [if_neg c14] at H
        exact absurd H (by simp)
      ·rw [if_neg c13] at H
       exact absurd H (by simp)
     ·rw [if_neg c12] at H
      exact absurd H (by simp)
    ·rw [if_neg c10] at H
     exact absurd H (by simp)
   ·rw [if_neg c9] at H
    exact absurd H (by simp)
  ·rw [if_neg c8] at H
   exact absurd H (by simp)

/-! ### spec_WheelStop: function 31 -/
def spec_WheelStop.f (k : Nat) (a0_0 : Int) (l0_1 : List (S133)) (a1 : Int) : Option (Int × (List (S133)) × Bool) := (spec_WheelOk.f k a0_0 l0_1).bind fun t149 => (if t149 = true then ((spec_l7own.f a0_0 l0_1).bind fun bt150 => ((spec_l7stop.f k bt150.1 bt150.2 a1).bind fun bt155 => (some (bt155.2.1, bt155.2.2, bt155.1)))) else (some (0, ([] : List (S133)), false)))
theorem spec_WheelStop.mono : ∀ a0 a1 a2 k, LeO (spec_WheelStop.f k a0 a1 a2) (spec_WheelStop.f (k + 1) a0 a1 a2) := by
 intro a0 a1 a2 k
 unfold spec_WheelStop.f
 repeat' first
   | (with_reducible exact spec_WheelOk.mono _ _ _)
   | (with_reducible exact spec_l7stop.mono _ _ _ _)
   | (with_reducible exact LeO.refl _)
   | (with_reducible exact LeO.none _)
   | (with_reducible refine LeO.ite ?_ ?_)
   | (with_reducible refine LeO.bind ?_ (fun _ => ?_))
   | exact spec_WheelOk.mono _ _ _
   | exact spec_l7stop.mono _ _ _ _
   | exact LeO.none _
   | refine LeO.ite ?_ ?_
   | refine LeO.bind ?_ (fun _ => ?_)
set_option maxHeartbeats 8000000 in
set_option maxRecDepth 100000 in
theorem spec_WheelStop.calls (k : Nat) (a0_0 : Int) (A0_1 : Option Addr) (c0_1 : Nat) (l0_1 : List (S133)) (a1 : Int) (r1 : Int) (r2 : List (S133)) (r3 : Bool) (w : World) (hr0_1 : Kd.C k133 w A0_1 l0_1.length l0_1) (hc0_1 : l0_1.length ≤ c0_1) (h : spec_WheelStop.f k a0_0 l0_1 a1 = some (r1, r2, r3)) :
  Calls Try.prog 31 #[.agg #[.int .i64 a0_0, .slice A0_1 l0_1.length c0_1], .int .i64 a1] w fun e w' => ∃ v1_ : Value, e = .returned (.tuple #[.agg #[.int .i64 r1, v1_], .bool r3]) ∧ Kd.R k133 133 w' w.heap.size (fun _ => True) v1_ r2 ∧ Below w.heap.size w w' := by
 have hu54 := Try.underlying54
 have HR0_1 := Aside0.mk hr0_1; have HC0_1 := Aside0.mk hc0_1; clear hr0_1 hc0_1
 have HB := Aside0.mk (Below.refl w.heap.size w)
 have H : ((spec_WheelOk.f k a0_0 l0_1).bind fun t149 => (if t149 = true then ((spec_l7own.f a0_0 l0_1).bind fun bt150 => ((spec_l7stop.f k bt150.1 bt150.2 a1).bind fun bt155 => (some (bt155.2.1, bt155.2.2, bt155.1)))) else (some (0, ([] : List (S133)), false)))) = some (r1, r2, r3) := h
 clear h; replace H := Option.bind_eq_some_iff.mp H; obtain ⟨t149, A30, H⟩ := H; have A3 := Aside0.mk A30; clear A30; go_enter Try.func31, Try.ntmps31
 replace H := Aside0.mk H
 go_wp2_with (first | ((with_reducible refine gate_dst (N := 2) rfl ?_); refine box_event ?hg (N := 2) ?hd (cs := #[.int .i64 a0_0, .slice A0_1 l0_1.length c0_1]) (t := 54) ?hr ?_; (case hd => rfl); (case hg => rfl); (case hr => first | (go_simp; done) | (go_simp; rfl)); intro gb147 hg w4 hbox hb; have n_ := an (below_step (by exact bel0) hb) (an (hbox) (an ((by rw [hg]; exact (below_size (by exact bel0)) : w.heap.size ≤ gb147)) (an ((by rw [hg]; exact (below_size (by exact bel0)) : w.heap.size ≤ gb147)) (trivial)))); clear HB; obtain ⟨HB, BK147, GW147, GE147, -⟩ := n_; clear hb hbox hg) | ((with_reducible refine gate_dst (N := 4) rfl ?_); refine box_event ?hg (N := 4) ?hd (cs := #[.int .i64 0, .slice none 0 0]) (t := 54) ?hr ?_; (case hd => rfl); (case hg => rfl); (case hr => first | (go_simp; done) | (go_simp; rfl)); intro gb148 hg w5 hbox hb; have n_ := an (blk_below (blk_nw BK147.out) hb) (an (below_step (by exact bel0) hb) (an (hbox) (an ((by rw [hg]; exact (below_size (by exact bel0)) : w.heap.size ≤ gb148)) (an ((by rw [hg]; exact (below_size (by exact bel0)) : w.heap.size ≤ gb148)) (an ((by rw [hg]; exact Nat.ne_of_lt (blk_lt (blk_nw BK147.out)) : gb147 ≠ gb148)) (an ((by rw [hg]; exact Nat.ne_of_gt (blk_lt (blk_nw BK147.out)) : gb148 ≠ gb147)) (trivial))))))); clear BK147 HB; obtain ⟨BK147, HB, BK148, GW148, GE148, NB147_148, NB148_147, -⟩ := n_; clear hb hbox hg; have hnb6 := NB147_148.out; have hnc6 := NB148_147.out; obtain ⟨hcz7_0, hcz7_1⟩ := blkz2 BK147.out; have hfz7_0 := blkf BK147.out) | ((with_reducible refine gate_callee (f := 88) rfl ?_); refine goesL_ (some 9) rfl rfl Try.func88 (by kernel_rfl) rfl #[.agg #[.int .i64 a0_0, .slice A0_1 l0_1.length c0_1]] rfl (by (try simp only [List.map_toArray, List.map_cons, List.map_nil]); first | done | rfl | (simp only [List.length_drop, List.length_take]; rfl)) ?_; (with_reducible refine (spec_WheelOk.calls k a0_0 _ _ l0_1 t149 _ ?side1 ?side2 A3.out).mono ?_); (case side1 => repeat (first | exact (Kd.C_below HR0_1.out HB.out) | (with_reducible refine Kd.C_alloc ?_ _) | (with_reducible refine Kd.C_drewN ?_ _) | (with_reducible refine Kd.C_drew ?_))); (case side2 => exact HC0_1.out); rintro e w8 ⟨rfl, hb⟩; refine ⟨_, rfl, ?_⟩; have n_ := an (blk_below (blk_nw BK147.out) hb) (an (blk_below (blk_nw BK148.out) hb) (an (below_step (by exact bel0) hb) (trivial))); clear BK147 BK148 HB; obtain ⟨BK147, BK148, HB, -⟩ := n_; (try clear hb); (try clear hb2); (try clear hk); (try clear hi); refine Stop.out ?_))
 refine Stop.mk ?_
 replace H := H.out
 by_cases c9 : t149 = true
 ·subst c9; rw [if_pos rfl] at H; replace H := Option.bind_eq_some_iff.mp H
  obtain ⟨⟨t150, t151⟩, A100, H⟩ := H
  replace H : ((spec_l7stop.f k t150 t151 a1).bind fun bt155 => (some (bt155.2.1, bt155.2.2, bt155.1))) = some (r1, r2, r3) := H
  have A10 := Aside0.mk A100; clear A100; replace H := Option.bind_eq_some_iff.mp H
  obtain ⟨⟨t155, t156, t157⟩, A110, H⟩ := H
  replace H : (some (t156, t157, t155)) = some (r1, r2, r3) := H
  have A11 := Aside0.mk A110; clear A110; simp only [Option.some.injEq, Prod.mk.injEq] at H; obtain ⟨rfl, rfl, rfl⟩ := H; have hnb12 := NB147_148.out; have hnc12 := NB148_147.out; obtain ⟨hcz13_0, hcz13_1⟩ := blkz2 BK147.out; have hfz13_0 := blkf BK147.out
  go_wp2_with (first | ((with_reducible refine gate_callee (f := 89) rfl ?_); refine goesL_ (some 13) rfl rfl Try.func89 (by kernel_rfl) rfl #[.agg #[.int .i64 a0_0, .slice A0_1 l0_1.length c0_1]] rfl (by (try simp only [List.map_toArray, List.map_cons, List.map_nil]); first | done | rfl | (simp only [List.length_drop, List.length_take]; rfl)) ?_; (with_reducible refine (spec_l7own.calls a0_0 _ _ l0_1 t150 t151 _ ?side1 ?side2 A10.out).mono ?_); (case side1 => repeat (first | exact (Kd.C_below HR0_1.out HB.out) | (with_reducible refine Kd.C_alloc ?_ _) | (with_reducible refine Kd.C_drewN ?_ _) | (with_reducible refine Kd.C_drew ?_))); (case side2 => exact HC0_1.out); rintro e w14 ⟨v152, rfl, ho0, hb⟩; refine ⟨_, rfl, ?_⟩; have n_ := an (Kd.R_lower ho0 (below_size (by exact bel0))) (an (blk_below (blk_nw BK147.out) hb) (an (blk_below (blk_nw BK148.out) hb) (an (below_step (by exact bel0) hb) (trivial)))); clear BK147 BK148 HB; obtain ⟨HO153, BK147, BK148, HB, -⟩ := n_; (try clear hb); (try clear hb2); (try clear hk); (try clear hi); (try clear ho0)) | ((with_reducible refine gate_dst (N := 6) rfl ?_); refine box_event ?hg (N := 6) ?hd (cs := #[.int .i64 0, .slice none 0 0]) (t := 54) ?hr ?_; (case hd => rfl); (case hg => rfl); (case hr => first | (go_simp; done) | (go_simp; rfl)); intro gb154 hg w15 hbox hb; have n_ := an (Kd.R_below (by exact Kd.R_nw HO153.out) hb) (an (blk_below (blk_nw BK147.out) hb) (an (blk_below (blk_nw BK148.out) hb) (an (below_step (by exact bel0) hb) (an (hbox) (an ((by rw [hg]; exact (below_size (by exact bel0)) : w.heap.size ≤ gb154)) (an ((by rw [hg]; exact (below_size (by exact bel0)) : w.heap.size ≤ gb154)) (an ((by rw [hg]; exact Nat.ne_of_lt (blk_lt (blk_nw BK147.out)) : gb147 ≠ gb154)) (an ((by rw [hg]; exact Nat.ne_of_gt (blk_lt (blk_nw BK147.out)) : gb154 ≠ gb147)) (an ((by rw [hg]; exact Nat.ne_of_lt (blk_lt (blk_nw BK148.out)) : gb148 ≠ gb154)) (an ((by rw [hg]; exact Nat.ne_of_gt (blk_lt (blk_nw BK148.out)) : gb154 ≠ gb148)) (trivial))))))))))); clear HO153 BK147 BK148 HB; obtain ⟨HO153, BK147, BK148, HB, BK154, GW154, GE154, NB147_154, NB154_147, NB148_154, NB154_148, -⟩ := n_; clear hb hbox hg; have hnb16 := NB154_147.out; have hnc16 := NB147_154.out; have hnb17 := NB154_148.out; have hnc17 := NB148_154.out; obtain ⟨hcz18_0, hcz18_1⟩ := blkz2 BK154.out; have hfz18_0 := blkf BK154.out; obtain ⟨Ao19, co19, eo19⟩ := Kd.R_slice HO153.out; subst eo19) | ((with_reducible refine gate_store (t := 54) (p := 6) rfl ?_); refine store_event (t := 54) (p := 6) (v := ?vo_w20) (w1 := ((w15.setCell ⟨gb154, 0, none⟩ (.int .i64 t150)).setCell ⟨gb154, 1, none⟩ (.slice Ao19 t151.length co19))) ?hg ?ho ?hn ?hr ?_; (case ho => rfl); (case hg => rfl); (case hn => rfl); (case hr => first | (go_simp; done) | (go_simp; rfl)); intro w20 hw; have n0_ : Aside0 (Kd.R k133 133 w20 w.heap.size (fun _ => True) (.slice Ao19 t151.length co19) t151) := ⟨(by rw [hw]; exact (by exact (Kd.R_farN HO153.out BK154.out)))⟩; have n1_ : Aside0 (w20.heap[gb147]? = some (.cells #[.int .i64 a0_0, .slice A0_1 l0_1.length c0_1] 54 (0, 0))) := ⟨(by rw [hw]; exact (by exact blk_kb BK147.out NB147_154.out))⟩; have n2_ : Aside0 (w20.heap[gb148]? = some (.cells #[.int .i64 0, .slice none 0 0] 54 (0, 0))) := ⟨(by rw [hw]; exact (by exact blk_kb BK148.out NB148_154.out))⟩; have n3_ : Aside0 (w20.heap[gb154]? = some (.cells #[.int .i64 t150, .slice Ao19 t151.length co19] 54 (0, 0))) := ⟨(by rw [hw]; exact (by (with_reducible repeat (first | refine blk_drewN ?_ _ | refine blk_drew ?_ | refine blk_alloc ?_ _)); exact blk_fill2 BK154.out))⟩; have n4_ : Aside0 (Below w.heap.size w w20) := ⟨(by rw [hw]; exact (by exact bel0))⟩; clear hw; clear HO153; clear BK147; clear BK148; clear BK154; clear HB; have HO153 := n0_; have BK147 := n1_; have BK148 := n2_; have BK154 := n3_; have HB := n4_; clear n0_ n1_ n2_ n3_ n4_) | ((with_reducible refine gate_callee (f := 90) rfl ?_); refine goesL_ (some 15) rfl rfl Try.func90 (by kernel_rfl) rfl #[.pointer (some ⟨gb154, 0, none⟩), .int .i64 a1] rfl (by (try simp only [List.map_toArray, List.map_cons, List.map_nil]); first | done | rfl | (simp only [List.length_drop, List.length_take]; rfl)) ?_; (with_reducible refine (spec_l7stop.calls k gb154 t150 (fun k_ => some k_ = (.slice Ao19 t151.length co19 : Value).ownBlock) (.slice Ao19 t151.length co19) t151 a1 t155 t156 t157 w _ ?side1 ?side2 ?side3 ?side4 A11.out).mono ?_); (case side1 => exact bel0); (case side2 => exact blk_nw BK154.out); (case side3 => exact GE154.out); (case side4 => exact Kd.R_tight rfl HO153.out); rintro e w21 ⟨rfl, v158, ho0, hi, hb, hkp⟩; refine ⟨_, rfl, ?_⟩; have n_ := an (blk_kept (by exact blk_nw BK147.out) hkp (fun hs_ => Or.elim hs_ (fun hs_ => (fun e_ => (Kd.R_ne HO153.out BK147.out (by decide)) e_) hs_) (fun e_ => NB147_154.out e_))) (an (blk_kept (by exact blk_nw BK148.out) hkp (fun hs_ => Or.elim hs_ (fun hs_ => (fun e_ => (Kd.R_ne HO153.out BK148.out (by decide)) e_) hs_) (fun e_ => NB148_154.out e_))) (an (hi) (an (Kd.R_mono (ok' := fun k_ => True) ho0 (fun k_ hk_ => trivial)) (an (hb) (trivial))))); clear BK147 BK148 BK154 HB HO153; obtain ⟨BK147, BK148, BK154, HO159, HB, -⟩ := n_; (try clear hb); (try clear hkp); (try clear ho0); obtain ⟨hcz22_0, hcz22_1⟩ := blkz2 BK154.out; have hfz22_0 := blkf BK154.out; obtain ⟨hcz23_0, hcz23_1⟩ := blkz2 BK148.out; have hfz23_0 := blkf BK148.out; obtain ⟨Ao24, co24, eo24⟩ := Kd.R_slice HO159.out; subst eo24) | ((with_reducible refine gate_store (t := 54) (p := 4) rfl ?_); refine store_event (t := 54) (p := 4) (v := ?vo_w25) (w1 := ((w21.setCell ⟨gb148, 0, none⟩ (.int .i64 t156)).setCell ⟨gb148, 1, none⟩ (.slice Ao24 t157.length co24))) ?hg ?ho ?hn ?hr ?_; (case ho => rfl); (case hg => rfl); (case hn => rfl); (case hr => first | (go_simp; done) | (go_simp; rfl)); intro w25 hw; have n0_ : Aside0 (Kd.R k133 133 w25 w.heap.size (fun _ => True) (.slice Ao24 t157.length co24) t157) := ⟨(by rw [hw]; exact (by exact (Kd.R_farN HO159.out BK148.out)))⟩; have n1_ : Aside0 (w25.heap[gb147]? = some (.cells #[.int .i64 a0_0, .slice A0_1 l0_1.length c0_1] 54 (0, 0))) := ⟨(by rw [hw]; exact (by exact blk_kb BK147.out NB147_148.out))⟩; have n2_ : Aside0 (w25.heap[gb148]? = some (.cells #[.int .i64 t156, .slice Ao24 t157.length co24] 54 (0, 0))) := ⟨(by rw [hw]; exact (by (with_reducible repeat (first | refine blk_drewN ?_ _ | refine blk_drew ?_ | refine blk_alloc ?_ _)); exact blk_fill2 BK148.out))⟩; have n3_ : Aside0 (w25.heap[gb154]? = some (.cells #[.int .i64 t156, .slice Ao24 t157.length co24] 54 (0, 0))) := ⟨(by rw [hw]; exact (by exact blk_kb BK154.out NB154_148.out))⟩; have n4_ : Aside0 (Below w.heap.size w w25) := ⟨(by rw [hw]; exact (by exact bel0))⟩; clear hw; clear HO159; clear BK147; clear BK148; clear BK154; clear HB; have HO159 := n0_; have BK147 := n1_; have BK148 := n2_; have BK154 := n3_; have HB := n4_; clear n0_ n1_ n2_ n3_ n4_))
  refine bodyPost_ret (results_ct rfl _ _ gb148 54 #[.int .i64 t156, .slice Ao24 t157.length co24] (0, 0) _ rfl (by exact blk_nw BK148.out) Try.underlying54 rfl (by kernel_rfl)) rfl ?_
  exact ⟨_, by first | rfl | (simp [errW_none, errW_some] <;> rfl) | (simp [*, errW_none, errW_some] <;> rfl), by exact Kd.R_nw HO159.out, by exact bel0⟩
 ·replace c9 := Bool.eq_false_iff.mpr c9
  subst c9
  rw [if_neg (show ¬ (false = true) by decide)] at H
  simp only [Option.some.injEq, Prod.mk.injEq] at H; obtain ⟨rfl, rfl, rfl⟩ := H; have hnb26 := NB148_147.out; have hnc26 := NB147_148.out; obtain ⟨hcz27_0, hcz27_1⟩ := blkz2 BK148.out; have hfz27_0 := blkf BK148.out
  go_wp2_with (first | ((with_reducible refine gate_store (t := 54) (p := 4) rfl ?_); refine store_event (t := 54) (p := 4) (v := ?vo_w28) (w1 := ((w8.setCell ⟨gb148, 0, none⟩ (.int .i64 0)).setCell ⟨gb148, 1, none⟩ (.slice none 0 0))) ?hg ?ho ?hn ?hr ?_; (case ho => rfl); (case hg => rfl); (case hn => rfl); (case hr => first | (go_simp; done) | (go_simp; rfl)); intro w28 hw; have n0_ : Aside0 (w28.heap[gb147]? = some (.cells #[.int .i64 a0_0, .slice A0_1 l0_1.length c0_1] 54 (0, 0))) := ⟨(by rw [hw]; exact (by exact blk_kb BK147.out NB147_148.out))⟩; have n1_ : Aside0 (w28.heap[gb148]? = some (.cells #[.int .i64 0, .slice none 0 0] 54 (0, 0))) := ⟨(by rw [hw]; exact (by (with_reducible repeat (first | refine blk_drewN ?_ _ | refine blk_drew ?_ | refine blk_alloc ?_ _)); exact blk_fill2 BK148.out))⟩; have n2_ : Aside0 (Below w.heap.size w w28) := ⟨(by rw [hw]; exact (by exact bel0))⟩; clear hw; clear BK147; clear BK148; clear HB; have BK147 := n0_; have BK148 := n1_; have HB := n2_; clear n0_ n1_ n2_))
  refine bodyPost_ret (results_ct rfl _ _ gb148 54 #[.int .i64 0, .slice none 0 0] (0, 0) _ rfl (by exact blk_nw BK148.out) Try.underlying54 rfl (by kernel_rfl)) rfl ?_
  exact ⟨_, by first | rfl | (simp [errW_none, errW_some] <;> rfl) | (simp [*, errW_none, errW_some] <;> rfl), by first | exact Kd.R_nil _ _ _ _ _ | exact Kd.N_nil _ _ _ _ _ | exact Kd.V_nil _ _ _ _ _ | exact Kd.Q_nil _ _ _ _ _ | exact Kd.S_nil _ _ _ _ _, by exact bel0⟩

/-! ### laws_toTimer: function 138 -/
def laws_toTimer.f (a0_0 : Int) (a0_1 : Int) : Option (Int × Int) := some (a0_0, a0_1)
set_option maxHeartbeats 8000000 in
set_option maxRecDepth 100000 in
theorem laws_toTimer.calls (a0_0 : Int) (a0_1 : Int) (r1 : Int) (r2 : Int) (w : World) (h : laws_toTimer.f a0_0 a0_1 = some (r1, r2)) :
  Calls Try.prog 138 #[.agg #[.int .i64 a0_0, .int .i64 a0_1]] w fun e w' => e = .returned (.agg #[.int .i64 r1, .int .i64 r2]) ∧ Below w.heap.size w w' := by
 have hu170 := Try.underlying170
 have hu133 := Try.underlying133
 have HB := Aside0.mk (Below.refl w.heap.size w)
 have H : (some (a0_0, a0_1)) = some (r1, r2) := h
 clear h; simp only [Option.some.injEq, Prod.mk.injEq] at H; obtain ⟨rfl, rfl⟩ := H; go_enter Try.func138, Try.ntmps138
 go_wp2_with (first | ((with_reducible refine gate_dst (N := 1) rfl ?_); refine box_event ?hg (N := 1) ?hd (cs := #[.int .i64 a0_0, .int .i64 a0_1]) (t := 170) ?hr ?_; (case hd => rfl); (case hg => rfl); (case hr => first | (go_simp; done) | (go_simp; rfl)); intro gb160 hg w2 hbox hb; have n_ := an (below_step (by exact bel0) hb) (an (hbox) (an ((by rw [hg]; exact (below_size (by exact bel0)) : w.heap.size ≤ gb160)) (an ((by rw [hg]; exact (below_size (by exact bel0)) : w.heap.size ≤ gb160)) (trivial)))); clear HB; obtain ⟨HB, BK160, GW160, GE160, -⟩ := n_; clear hb hbox hg) | ((with_reducible refine gate_dst (N := 2) rfl ?_); refine box_event ?hg (N := 2) ?hd (cs := #[.int .i64 0, .int .i64 0]) (t := 133) ?hr ?_; (case hd => rfl); (case hg => rfl); (case hr => first | (go_simp; done) | (go_simp; rfl)); intro gb161 hg w3 hbox hb; have n_ := an (blk_below (blk_nw BK160.out) hb) (an (below_step (by exact bel0) hb) (an (hbox) (an ((by rw [hg]; exact (below_size (by exact bel0)) : w.heap.size ≤ gb161)) (an ((by rw [hg]; exact (below_size (by exact bel0)) : w.heap.size ≤ gb161)) (an ((by rw [hg]; exact Nat.ne_of_lt (blk_lt (blk_nw BK160.out)) : gb160 ≠ gb161)) (an ((by rw [hg]; exact Nat.ne_of_gt (blk_lt (blk_nw BK160.out)) : gb161 ≠ gb160)) (trivial))))))); clear BK160 HB; obtain ⟨BK160, HB, BK161, GW161, GE161, NB160_161, NB161_160, -⟩ := n_; clear hb hbox hg) | ((with_reducible refine gate_dst (N := 3) rfl ?_); refine box_event ?hg (N := 3) ?hd (cs := #[.int .i64 0, .int .i64 0]) (t := 133) ?hr ?_; (case hd => rfl); (case hg => rfl); (case hr => first | (go_simp; done) | (go_simp; rfl)); intro gb162 hg w4 hbox hb; have n_ := an (blk_below (blk_nw BK160.out) hb) (an (blk_below (blk_nw BK161.out) hb) (an (below_step (by exact bel0) hb) (an (hbox) (an ((by rw [hg]; exact (below_size (by exact bel0)) : w.heap.size ≤ gb162)) (an ((by rw [hg]; exact (below_size (by exact bel0)) : w.heap.size ≤ gb162)) (an ((by rw [hg]; exact Nat.ne_of_lt (blk_lt (blk_nw BK160.out)) : gb160 ≠ gb162)) (an ((by rw [hg]; exact Nat.ne_of_gt (blk_lt (blk_nw BK160.out)) : gb162 ≠ gb160)) (an ((by rw [hg]; exact Nat.ne_of_lt (blk_lt (blk_nw BK161.out)) : gb161 ≠ gb162)) (an ((by rw [hg]; exact Nat.ne_of_gt (blk_lt (blk_nw BK161.out)) : gb162 ≠ gb161)) (trivial)))))))))); clear BK160 BK161 HB; obtain ⟨BK160, BK161, HB, BK162, GW162, GE162, NB160_162, NB162_160, NB161_162, NB162_161, -⟩ := n_; clear hb hbox hg; have hnb5 := NB160_161.out; have hnc5 := NB161_160.out; have hnb6 := NB160_162.out; have hnc6 := NB162_160.out; obtain ⟨hcz7_0, hcz7_1⟩ := blkz2 BK160.out; have hfz7_0 := blkf BK160.out; have hnb8 := NB162_161.out; have hnc8 := NB161_162.out; obtain ⟨hcz9_0, hcz9_1⟩ := blkz2 BK162.out; have hfz9_0 := blkf BK162.out; obtain ⟨hcz10_0, hcz10_1⟩ := blkz2 BK161.out; have hfz10_0 := blkf BK161.out))
 refine bodyPost_ret (results_cell_row rfl _ _ gb161 133 #[.int .i64 a0_0, .int .i64 a0_1] (0, 0) _ rfl (by (with_reducible repeat (first | refine blk_drewN ?_ _ | refine blk_drew ?_ | refine blk_alloc ?_ _)); refine blk_put (cs := #[.int .i64 a0_0, .int .i64 0]) ?_ 1 _ rfl; (with_reducible repeat (first | refine blk_drewN ?_ _ | refine blk_drew ?_ | refine blk_alloc ?_ _)); refine blk_put (cs := #[.int .i64 0, .int .i64 0]) ?_ 0 _ rfl; (with_reducible repeat (first | refine blk_drewN ?_ _ | refine blk_drew ?_ | refine blk_alloc ?_ _)); refine blk_far ?_ NB161_162.out _; (with_reducible repeat (first | refine blk_drewN ?_ _ | refine blk_drew ?_ | refine blk_alloc ?_ _)); refine blk_far ?_ NB161_162.out _; (with_reducible repeat (first | refine blk_drewN ?_ _ | refine blk_drew ?_ | refine blk_alloc ?_ _)); exact BK161.out) Try.underlying133 rfl (by kernel_rfl)) rfl ?_
 exact ⟨by first | rfl | (simp [errW_none, errW_some] <;> rfl) | (simp [*, errW_none, errW_some] <;> rfl), by exact bel0⟩

/-! ### laws_toTimerS: function 91 -/
def laws_toTimerS.l0 : Nat → List (S170) → List (S133) → Int → Option ((List (S133)))
  | 0, _, _, _ => none
  | k + 1, x0, x3, x4 => if x4 < (x0.length : Int) then (if 0 ≤ x4 then ((laws_toTimer.f ((rd_T170 x0 x4).f0) ((rd_T170 x0 x4).f1)).bind fun bt167 => (if x4 < (x3.length : Int) then (laws_toTimerS.l0 k x0 (x3.set (x4 : Int).toNat (⟨bt167.1, bt167.2⟩ : S133)) (wrap64 (x4 + 1))) else (none))) else (none)) else (some x3)
def laws_toTimerS.f (k : Nat) (l0 : List (S170)) : Option ((List (S133))) := if 0 ≤ (l0.length : Int) then (if ((l0.length : Int) : Int).toNat ≤ 17592186044416 then (laws_toTimerS.l0 k l0 (List.replicate ((l0.length : Int) : Int).toNat z133) 0) else (none)) else (none)
theorem laws_toTimerS.mono_l : ∀ k, (∀ y0 y1 y2, LeO (laws_toTimerS.l0 k y0 y1 y2) (laws_toTimerS.l0 (k + 1) y0 y1 y2))
 | 0 => fun _ _ _ r h => by simp [laws_toTimerS.l0] at h
 | k + 1 => by
  have ih0 := laws_toTimerS.mono_l k
  ·intro y0 y1 y2
   unfold laws_toTimerS.l0
   repeat' first
   | (with_reducible exact ih0 _ _ _)
   | (with_reducible exact LeO.refl _)
   | (with_reducible exact LeO.none _)
   | (with_reducible refine LeO.ite ?_ ?_)
   | (with_reducible refine LeO.bind ?_ (fun _ => ?_))
   | exact ih0 _ _ _
   | exact LeO.none _
   | refine LeO.ite ?_ ?_
   | refine LeO.bind ?_ (fun _ => ?_)
theorem laws_toTimerS.mono : ∀ a0 k, LeO (laws_toTimerS.f k a0) (laws_toTimerS.f (k + 1) a0) := by
 intro a0 k
 have ih0 := laws_toTimerS.mono_l k
 unfold laws_toTimerS.f
 repeat' first
   | (with_reducible exact ih0 _ _ _)
   | (with_reducible exact LeO.refl _)
   | (with_reducible exact LeO.none _)
   | (with_reducible refine LeO.ite ?_ ?_)
   | (with_reducible refine LeO.bind ?_ (fun _ => ?_))
   | exact ih0 _ _ _
   | exact LeO.none _
   | refine LeO.ite ?_ ?_
   | refine LeO.bind ?_ (fun _ => ?_)
set_option maxHeartbeats 8000000 in
set_option maxRecDepth 100000 in
theorem laws_toTimerS.calls (k : Nat) (A0 : Option Addr) (c0 : Nat) (l0 : List (S170)) (r : List (S133)) (w : World) (hr0 : Kd.C k170 w A0 l0.length l0) (hc0 : l0.length ≤ c0) (h : laws_toTimerS.f k l0 = some r) :
  Calls Try.prog 91 #[.slice A0 l0.length c0] w fun e w' => ∃ v0_ : Value, e = .returned (v0_) ∧ Kd.R k133 133 w' w.heap.size (fun _ => True) v0_ r ∧ Below w.heap.size w w' := by
 have hu170 := Try.underlying170
 have hu133 := Try.underlying133
 have HR0 := Aside0.mk hr0; have HC0 := Aside0.mk hc0; clear hr0 hc0
 have HB := Aside0.mk (Below.refl w.heap.size w)
 have H : (if 0 ≤ (l0.length : Int) then (if ((l0.length : Int) : Int).toNat ≤ 17592186044416 then (laws_toTimerS.l0 k l0 (List.replicate ((l0.length : Int) : Int).toNat z133) 0) else (none)) else (none)) = some r := h
 clear h
 by_cases c2 : 0 ≤ (l0.length : Int)
 ·rw [if_pos c2] at H
  have c2b0 := eq_true c2
  have c2b1 : decide (0 ≤ (l0.length : Int)) = true := decide_eq_true c2
  clear c2
  by_cases c3 : ((l0.length : Int) : Int).toNat ≤ 17592186044416
  ·rw [if_pos c3] at H
   have c3b0 := eq_true c3
   have c3b1 : decide (((l0.length : Int) : Int).toNat ≤ 17592186044416) = true := decide_eq_true c3
   clear c3
   obtain ⟨y163, hy163⟩ : ∃ y_ : List (S133), y_ = (List.replicate ((l0.length : Int) : Int).toNat z133) := ⟨_, rfl⟩
   replace H : (laws_toTimerS.l0 k l0 y163 0) = some r := by first | (rw [hy163]; with_reducible exact H) | (have H2_ := (Option.bind_some _ _).symm.trans H; rw [hy163]; with_reducible exact H2_) | (have H2_ := (Option.bind_some _ _).symm.trans H; with_reducible exact H2_) | with_reducible exact H | (rw [hy163]; exact H) | exact H
   have Ny163 := Aside0.mk hy163; clear hy163
   have H' := Aside0.mk H
   clear H; go_enter Try.func91, Try.ntmps91
   go_wp2_with (first | ((with_reducible refine gate_dst (N := 7) rfl ?_); refine Kd.R_make k133 _ 133 rfl (N := 7) rfl 52 _ _ rfl (l0.length : Int) rfl rfl Try.underlying52 (.agg #[(.int .i64 0), (.int .i64 0)]) 16 info133 rfl (by decide) (by omega) z133 (ok := fun _ => True) (okp := fun _ => True) (k133_mkM _ _ _ z133 ) (fun _ hk => hk) trivial (of_decide_eq_true (by first | (with_reducible assumption) | assumption)) (Nat.le_trans (Nat.mul_le_mul_right _ (of_decide_eq_true (by first | (with_reducible assumption) | assumption) : (l0.length : Int).toNat ≤ 17592186044416)) (by omega)) (Below.refl _ _) (Nat.le_refl _) ?_; intro v164 w4 ho5 hb hg_ hnew_; clear hg_ hnew_; (first | rw [← Ny163.out] at ho5 | (simp only [Int.reduceToNat] at ho5; rw [← Ny163.out] at ho5)); have n_ := an (Kd.R_lower ho5 (below_size (by exact bel0))) (an (below_step (by exact bel0) hb) (trivial)); clear HB; obtain ⟨HO165, HB, -⟩ := n_; clear hb ho5))
   go_loopg [4] k (fun kq v4 w' => ∃ (x3_1 : List (S133)) (x4_1 : Int), v4 = .int .i64 x4_1 ∧ Aside0 (laws_toTimerS.l0 kq l0 x3_1 x4_1 = some r) ∧ Aside0 (kq ≤ k) ∧ Aside0 (Kd.R k133 133 w' w.heap.size (fun _ => True) v164 x3_1) ∧ Aside0 (Below w.heap.size w w'))
   case atStart => exact ⟨(y163), (0), (by first | rfl | (simp; done) | (simp [*]; done)), H', ⟨Nat.le_refl _⟩, ⟨by exact Kd.R_nw HO165.out⟩, ⟨by exact bel0⟩⟩
   case round =>
    clear H'
    try clear c2; try clear c2b0; try clear c2b1; try clear p2; try clear c3; try clear c3b0; try clear c3b1
    obtain ⟨x3_1, x4_1, rfl, HA, HK1, HO_3, HB⟩ := hrel
    cases gk with
    | zero => exact absurd HA.out (by simp [laws_toTimerS.l0])
    | succ k1 =>
     have H := HA.out; clear HA
     simp only [laws_toTimerS.l0] at H
     by_cases c6 : x4_1 < (l0.length : Int)
     ·rw [if_pos c6] at H
      have c6b0 : decide (x4_1 < (l0.length : Int)) = true := decide_eq_true c6
      clear c6; (try simp only [c6b0])
      by_cases c7 : 0 ≤ x4_1
      ·rw [if_pos c7] at H; have c7b0 : decide (0 ≤ x4_1) = true := decide_eq_true c7; clear c7; (try simp only [c7b0]); replace H := Option.bind_eq_some_iff.mp H
       obtain ⟨⟨t167, t168⟩, A80, H⟩ := H
       replace H : (if x4_1 < (x3_1.length : Int) then (laws_toTimerS.l0 k1 l0 (x3_1.set (x4_1 : Int).toNat (⟨t167, t168⟩ : S133)) (wrap64 (x4_1 + 1))) else (none)) = some r := H
       have A8 := Aside0.mk A80; clear A80
       have p166 : 0 ≤ (x4_1 : Int) := of_decide_eq_true (by first | (with_reducible assumption) | assumption)
       have q166 : x4_1 < (l0.length : Int) := of_decide_eq_true (by first | (with_reducible assumption) | assumption)
       obtain ⟨ad166, e166, hx166_0, hx166_1⟩ := at_T170 HR0.out x4_1 p166 q166
       cases e166
       replace hx166_0 := (HB.out.cell (World.block_lt_of_cell? w _ hx166_0)).trans hx166_0
       replace hx166_1 := (HB.out.cell (World.block_lt_of_cell? w _ hx166_1)).trans hx166_1
       replace p166 := eq_true p166
       replace q166 := eq_true q166
       replace H := Aside0.mk H
       go_wp2_with (first | ((with_reducible refine gate_callee (f := 138) rfl ?_); refine goesL_ (some 20) rfl rfl Try.func138 (by kernel_rfl) rfl #[.agg #[.int .i64 ((rd_T170 l0 x4_1).f0), .int .i64 ((rd_T170 l0 x4_1).f1)]] rfl (by (try simp only [List.map_toArray, List.map_cons, List.map_nil]); first | done | rfl | (simp only [List.length_drop, List.length_take]; rfl)) ?_; (with_reducible refine (laws_toTimer.calls ((rd_T170 l0 x4_1).f0) ((rd_T170 l0 x4_1).f1) t167 t168 _ A8.out).mono ?_); rintro e w9 ⟨rfl, hb⟩; refine ⟨_, rfl, ?_⟩; have n_ := an (Kd.R_below (by exact Kd.R_nw HO_3.out) hb) (an (below_step (by exact bel0) hb) (trivial)); clear HO_3 HB; obtain ⟨HO_3, HB, -⟩ := n_; (try clear hb); (try clear hb2); (try clear hk); (try clear hi); refine Stop.out ?_))
       refine Stop.mk ?_
       replace H := H.out
       by_cases c10 : x4_1 < (x3_1.length : Int)
       ·rw [if_pos c10] at H
        have c10b0 : decide (x4_1 < (x3_1.length : Int)) = true := decide_eq_true c10
        clear c10; (try simp only [c10b0])
        obtain ⟨y169, hy169⟩ : ∃ y_ : List (S133), y_ = (x3_1.set (x4_1 : Int).toNat (⟨t167, t168⟩ : S133)) := ⟨_, rfl⟩
        replace H : (laws_toTimerS.l0 k1 l0 y169 (wrap64 (x4_1 + 1))) = some r := by first | (rw [hy169]; with_reducible exact H) | (have H2_ := (Option.bind_some _ _).symm.trans H; rw [hy169]; with_reducible exact H2_) | (have H2_ := (Option.bind_some _ _).symm.trans H; with_reducible exact H2_) | with_reducible exact H | (rw [hy169]; exact H) | exact H
        have Ny169 := Aside0.mk hy169; clear hy169
        have H' := Aside0.mk H
        clear H
        have p11 : 0 ≤ (x4_1 : Int) := of_decide_eq_true (by first | (with_reducible assumption) | assumption)
        have q11 : (x4_1 : Int) < ((x3_1.length : Int) : Int) := of_decide_eq_true (by first | (with_reducible assumption) | assumption)
        obtain ⟨go11, co11, eo11, gb11, gl11, cl11, HG11⟩ := Kd.R_form HO_3.out (by omega)
        (first | cases eo11 | (injection eo11 with ea_ en_ ec_; (first | subst ea_ | (injection ea_ with ea_; subst ea_)); subst ec_; clear en_))
        have GB11 := Aside0.mk gb11; have GG11 := Aside0.mk HG11; clear gb11 gl11 HG11
        obtain ⟨ce11, hcl11, hM11, hcc11, hfr11⟩ := Kd.R_elem HO_3.out z133 (x4_1 : Int) p11 q11
        obtain rfl := k133_openM hM11
        have hx11_0 : w9.cell? ⟨go11, (x4_1 : Int).toNat * 2, none⟩ = some (.int .i64 ((rd_T133 x3_1 x4_1).f0)) := hcc11 0 _ rfl
        have hx11_1 : w9.cell? ⟨go11, (x4_1 : Int).toNat * 2 + 1, none⟩ = some (.int .i64 ((rd_T133 x3_1 x4_1).f1)) := hcc11 1 _ rfl
        have hf11_0 : w9.frozen? ⟨go11, (x4_1 : Int).toNat * 2, none⟩ = false := hfr11 0
        have hf11_1 : w9.frozen? ⟨go11, (x4_1 : Int).toNat * 2 + 1, none⟩ = false := hfr11 1
        clear hcl11 hcc11 hfr11 hM11
        replace p11 := eq_true p11
        replace q11 := eq_true q11
        have HX12 := Aside0.mk (show Kd.R k133 133 w9 w.heap.size (fun _ => True) (.slice (some ⟨go11, 0, none⟩) x3_1.length co11) x3_1 from (by exact Kd.R_nw HO_3.out))
        obtain ⟨ce12, hcl12, hM12, hcc12, hfr12⟩ := Kd.R_elem HX12.out z133 (x4_1 : Int) (of_decide_eq_true (by first | (with_reducible assumption) | assumption)) (by have h_ : (x4_1 : Int) < ((x3_1.length : Int) : Int) := of_decide_eq_true (by first | (with_reducible assumption) | assumption); first | exact h_ | (have e_ := (Kd.R_reads' HO_3.out).1; omega) | simpa using h_)
        obtain rfl := k133_openM hM12
        have HP12 := Kd.R_seg HX12.out (x4_1 : Int) (of_decide_eq_true (by first | (with_reducible assumption) | assumption)) (by have h_ : (x4_1 : Int) < ((x3_1.length : Int) : Int) := of_decide_eq_true (by first | (with_reducible assumption) | assumption); first | exact h_ | (have e_ := (Kd.R_reads' HO_3.out).1; omega) | simpa using h_) (seg := [.int .i64 t167, .int .i64 t168]) (j := 0) hcl12 hcc12 (show 2 ≤ 2 from by decide) (x' := (⟨t167, t168⟩ : S133)) (k133_mkM _ _ _ (⟨t167, t168⟩ : S133) ) (fun _ hk => hk)
        have hx12_0 := hcc12 0 _ rfl
        (try simp only [show (k133).sz = 2 from rfl, Nat.mul_one, Nat.add_zero] at hx12_0)
        have hf12_0 := hfr12 0
        (try simp only [show (k133).sz = 2 from rfl, Nat.mul_one, Nat.add_zero] at hf12_0)
        have hx12_1 := hcc12 1 _ rfl
        (try simp only [show (k133).sz = 2 from rfl, Nat.mul_one, Nat.add_zero] at hx12_1)
        have hf12_1 := hfr12 1
        (try simp only [show (k133).sz = 2 from rfl, Nat.mul_one, Nat.add_zero] at hf12_1)
        clear hcl12 hcc12 hfr12 hM12
        go_wp2_with (first | ((with_reducible refine gate_store (t := 133) (p := 21) rfl ?_); refine store_event (t := 133) (p := 21) (v := ?vo_w13) (w1 := ((w9.setCell ⟨go11, (x4_1 : Int).toNat * 2, none⟩ (.int .i64 t167)).setCell ⟨go11, (x4_1 : Int).toNat * 2 + 1, none⟩ (.int .i64 t168))) ?hg ?ho ?hn ?hr ?_; (case ho => rfl); (case hg => rfl); (case hn => rfl); (case hr => first | (go_simp; done) | (go_simp; rfl)); intro w13 hw; have hg : w9.grownBy w13 (some go11) := (by rw [hw]; exact HP12.2); have hp_ : Kd.R k133 133 w13 w.heap.size (fun _ => True) (.slice (some ⟨go11, 0, none⟩) x3_1.length co11) y169 := (by rw [hw, Ny169.out]; exact HP12.1); clear HP12; have n_ := an (hp_) (an ((by rw [hw]; exact below_set (below_set (HB.out) GB11.out) GB11.out : Below w.heap.size w w13)) (trivial)); clear HO_3 HB; obtain ⟨HO_3, HB, -⟩ := n_; clear hg hw hp_))
        go_roundg k1
        case measure => have := HK1.out; omega
        case rel => exact ⟨(y169), (wrap64 (x4_1 + 1)), (by first | rfl | (simp; done) | (simp [*]; done)), H', ⟨by have := HK1.out; omega⟩, ⟨by exact Kd.R_nw HO_3.out⟩, ⟨by exact bel0⟩⟩
       ·rw [if_neg c10] at H
        exact absurd H (by simp)
      ·rw [if_neg c7] at H
       exact absurd H (by simp)
     ·rw [if_neg c6] at H
      have c6b0 : decide (x4_1 < (l0.length : Int)) = false := decide_eq_false c6
      clear c6; (try simp only [c6b0])
      obtain rfl := Option.some.inj H
      go_wp2
      go_ret
      exact ⟨_, by first | rfl | (simp [errW_none, errW_some] <;> rfl) | (simp [*, errW_none, errW_some] <;> rfl), by exact Kd.R_nw HO_3.out, by exact bel0⟩
  ·rw [if_neg c3] at H
   exact absurd H (by simp)
 ·rw [if_neg c2] at H
  exact absurd H (by simp)

/-! ### laws_toWheel: function 32 -/
def laws_toWheel.f (k : Nat) (a0_0 : Int) (l0_1 : List (S170)) : Option (Int × (List (S133))) := (laws_toTimerS.f k l0_1).bind fun t173 => (some (a0_0, t173))
theorem laws_toWheel.mono : ∀ a0 a1 k, LeO (laws_toWheel.f k a0 a1) (laws_toWheel.f (k + 1) a0 a1) := by
 intro a0 a1 k
 unfold laws_toWheel.f
 repeat' first
   | (with_reducible exact laws_toTimerS.mono _ _)
   | (with_reducible exact LeO.refl _)
   | (with_reducible exact LeO.none _)
   | (with_reducible refine LeO.ite ?_ ?_)
   | (with_reducible refine LeO.bind ?_ (fun _ => ?_))
   | exact laws_toTimerS.mono _ _
   | exact LeO.none _
   | refine LeO.ite ?_ ?_
   | refine LeO.bind ?_ (fun _ => ?_)
set_option maxHeartbeats 8000000 in
set_option maxRecDepth 100000 in
theorem laws_toWheel.calls (k : Nat) (a0_0 : Int) (A0_1 : Option Addr) (c0_1 : Nat) (l0_1 : List (S170)) (r1 : Int) (r2 : List (S133)) (w : World) (hr0_1 : Kd.C k170 w A0_1 l0_1.length l0_1) (hc0_1 : l0_1.length ≤ c0_1) (h : laws_toWheel.f k a0_0 l0_1 = some (r1, r2)) :
  Calls Try.prog 32 #[.agg #[.int .i64 a0_0, .slice A0_1 l0_1.length c0_1]] w fun e w' => ∃ v1_ : Value, e = .returned (.agg #[.int .i64 r1, v1_]) ∧ Kd.R k133 133 w' w.heap.size (fun _ => True) v1_ r2 ∧ Below w.heap.size w w' := by
 have hu50 := Try.underlying50
 have hu54 := Try.underlying54
 have HR0_1 := Aside0.mk hr0_1; have HC0_1 := Aside0.mk hc0_1; clear hr0_1 hc0_1
 have HB := Aside0.mk (Below.refl w.heap.size w)
 have H : ((laws_toTimerS.f k l0_1).bind fun t173 => (some (a0_0, t173))) = some (r1, r2) := h
 clear h; replace H := Option.bind_eq_some_iff.mp H; obtain ⟨t173, A20, H⟩ := H; have A2 := Aside0.mk A20; clear A20; simp only [Option.some.injEq, Prod.mk.injEq] at H; obtain ⟨rfl, rfl⟩ := H; go_enter Try.func32, Try.ntmps32
 go_wp2_with (first | ((with_reducible refine gate_dst (N := 1) rfl ?_); refine box_event ?hg (N := 1) ?hd (cs := #[.int .i64 a0_0, .slice A0_1 l0_1.length c0_1]) (t := 50) ?hr ?_; (case hd => rfl); (case hg => rfl); (case hr => first | (go_simp; done) | (go_simp; rfl)); intro gb170 hg w3 hbox hb; have n_ := an (below_step (by exact bel0) hb) (an (hbox) (an ((by rw [hg]; exact (below_size (by exact bel0)) : w.heap.size ≤ gb170)) (an ((by rw [hg]; exact (below_size (by exact bel0)) : w.heap.size ≤ gb170)) (trivial)))); clear HB; obtain ⟨HB, BK170, GW170, GE170, -⟩ := n_; clear hb hbox hg) | ((with_reducible refine gate_dst (N := 2) rfl ?_); refine box_event ?hg (N := 2) ?hd (cs := #[.int .i64 0, .slice none 0 0]) (t := 54) ?hr ?_; (case hd => rfl); (case hg => rfl); (case hr => first | (go_simp; done) | (go_simp; rfl)); intro gb171 hg w4 hbox hb; have n_ := an (blk_below (blk_nw BK170.out) hb) (an (below_step (by exact bel0) hb) (an (hbox) (an ((by rw [hg]; exact (below_size (by exact bel0)) : w.heap.size ≤ gb171)) (an ((by rw [hg]; exact (below_size (by exact bel0)) : w.heap.size ≤ gb171)) (an ((by rw [hg]; exact Nat.ne_of_lt (blk_lt (blk_nw BK170.out)) : gb170 ≠ gb171)) (an ((by rw [hg]; exact Nat.ne_of_gt (blk_lt (blk_nw BK170.out)) : gb171 ≠ gb170)) (trivial))))))); clear BK170 HB; obtain ⟨BK170, HB, BK171, GW171, GE171, NB170_171, NB171_170, -⟩ := n_; clear hb hbox hg) | ((with_reducible refine gate_dst (N := 3) rfl ?_); refine box_event ?hg (N := 3) ?hd (cs := #[.int .i64 0, .slice none 0 0]) (t := 54) ?hr ?_; (case hd => rfl); (case hg => rfl); (case hr => first | (go_simp; done) | (go_simp; rfl)); intro gb172 hg w5 hbox hb; have n_ := an (blk_below (blk_nw BK170.out) hb) (an (blk_below (blk_nw BK171.out) hb) (an (below_step (by exact bel0) hb) (an (hbox) (an ((by rw [hg]; exact (below_size (by exact bel0)) : w.heap.size ≤ gb172)) (an ((by rw [hg]; exact (below_size (by exact bel0)) : w.heap.size ≤ gb172)) (an ((by rw [hg]; exact Nat.ne_of_lt (blk_lt (blk_nw BK170.out)) : gb170 ≠ gb172)) (an ((by rw [hg]; exact Nat.ne_of_gt (blk_lt (blk_nw BK170.out)) : gb172 ≠ gb170)) (an ((by rw [hg]; exact Nat.ne_of_lt (blk_lt (blk_nw BK171.out)) : gb171 ≠ gb172)) (an ((by rw [hg]; exact Nat.ne_of_gt (blk_lt (blk_nw BK171.out)) : gb172 ≠ gb171)) (trivial)))))))))); clear BK170 BK171 HB; obtain ⟨BK170, BK171, HB, BK172, GW172, GE172, NB170_172, NB172_170, NB171_172, NB172_171, -⟩ := n_; clear hb hbox hg; have hnb6 := NB170_171.out; have hnc6 := NB171_170.out; have hnb7 := NB170_172.out; have hnc7 := NB172_170.out; obtain ⟨hcz8_0, hcz8_1⟩ := blkz2 BK170.out; have hfz8_0 := blkf BK170.out; have hnb9 := NB172_171.out; have hnc9 := NB171_172.out; obtain ⟨hcz10_0, hcz10_1⟩ := blkz2 BK172.out; have hfz10_0 := blkf BK172.out) | ((with_reducible refine gate_callee (f := 91) rfl ?_); refine goesL_ (some 9) rfl rfl Try.func91 (by kernel_rfl) rfl #[.slice A0_1 l0_1.length c0_1] rfl (by (try simp only [List.map_toArray, List.map_cons, List.map_nil]); first | done | rfl | (simp only [List.length_drop, List.length_take]; rfl)) ?_; (with_reducible refine (laws_toTimerS.calls k _ _ l0_1 t173 _ ?side1 ?side2 A2.out).mono ?_); (case side1 => exact Kd.C_below HR0_1.out (by exact bel0)); (case side2 => exact HC0_1.out); rintro e w11 ⟨v174, rfl, ho0, hb⟩; refine ⟨_, rfl, ?_⟩; have n_ := an (Kd.R_lower ho0 (below_size (by exact bel0))) (an (blk_below (blk_kb BK170.out NB170_172.out) hb) (an (blk_below (blk_kb BK171.out NB171_172.out) hb) (an (blk_below (g := gb172) (o := .cells #[.int .i64 a0_0, .slice none 0 0] 54 (0, 0)) (by (with_reducible repeat (first | refine blk_drewN ?_ _ | refine blk_drew ?_ | refine blk_alloc ?_ _)); refine blk_put (cs := #[.int .i64 0, .slice none 0 0]) ?_ 0 _ rfl; (with_reducible repeat (first | refine blk_drewN ?_ _ | refine blk_drew ?_ | refine blk_alloc ?_ _)); exact BK172.out) hb) (an (below_step (by exact bel0) hb) (trivial))))); clear BK170 BK171 BK172 HB; obtain ⟨HO175, BK170, BK171, BK172, HB, -⟩ := n_; (try clear hb); (try clear hb2); (try clear hk); (try clear hi); (try clear ho0); obtain ⟨Ao12, co12, eo12⟩ := Kd.R_slice HO175.out; subst eo12; obtain ⟨hcz13_0, hcz13_1⟩ := blkz2 BK172.out; have hfz13_0 := blkf BK172.out; obtain ⟨hcz14_0, hcz14_1⟩ := blkz2 BK171.out; have hfz14_0 := blkf BK171.out))
 refine bodyPost_ret (results_cell_row rfl _ _ gb171 54 #[.int .i64 a0_0, .slice Ao12 t173.length co12] (0, 0) _ rfl (by (with_reducible repeat (first | refine blk_drewN ?_ _ | refine blk_drew ?_ | refine blk_alloc ?_ _)); refine blk_put (cs := #[.int .i64 a0_0, .slice none 0 0]) ?_ 1 _ rfl; (with_reducible repeat (first | refine blk_drewN ?_ _ | refine blk_drew ?_ | refine blk_alloc ?_ _)); refine blk_put (cs := #[.int .i64 0, .slice none 0 0]) ?_ 0 _ rfl; (with_reducible repeat (first | refine blk_drewN ?_ _ | refine blk_drew ?_ | refine blk_alloc ?_ _)); refine blk_far ?_ NB171_172.out _; (with_reducible repeat (first | refine blk_drewN ?_ _ | refine blk_drew ?_ | refine blk_alloc ?_ _)); exact BK171.out) Try.underlying54 rfl (by kernel_rfl)) rfl ?_
 exact ⟨_, by first | rfl | (simp [errW_none, errW_some] <;> rfl) | (simp [*, errW_none, errW_some] <;> rfl), by (with_reducible repeat (first | apply Kd.R_alloc | apply Kd.R_drewN | apply Kd.R_drew)); exact Kd.R_mono (Kd.R_far (p := ⟨gb171, 1, none⟩) (Kd.R_far (p := ⟨gb171, 0, none⟩) (Kd.R_far (p := ⟨gb172, 1, none⟩) (Kd.R_types (Kd.R_types HO175.out BK172.out (by decide)) BK171.out (by decide)) (fun _ hk => hk.1.2) (.slice Ao12 t173.length co12)) (fun _ hk => hk.2) (.int .i64 a0_0)) (fun _ hk => hk.2) (.slice Ao12 t173.length co12)) (fun _ hk => trivial), by exact bel0⟩

/-! ### impl_within: function 72 -/
def impl_within.f (a0 : Int) (a1 : Int) (a2 : Int) : Option (Bool) := if a1 ≤ a0 then (some (decide (a0 ≤ a2))) else (some false)
set_option maxHeartbeats 8000000 in
set_option maxRecDepth 100000 in
theorem impl_within.calls (a0 : Int) (a1 : Int) (a2 : Int) (r : Bool) (w : World) (h : impl_within.f a0 a1 a2 = some r) :
  Calls Try.prog 72 #[.int .i64 a0, .int .i64 a1, .int .i64 a2] w fun e w' => e = .returned (.bool r) ∧ Drawn0 w w' := by
 have H : (if a1 ≤ a0 then (some (decide (a0 ≤ a2))) else (some false)) = some r := h
 clear h
 by_cases c4 : a1 ≤ a0
 ·rw [if_pos c4] at H; have c4b0 : decide (a1 ≤ a0) = true := decide_eq_true c4; clear c4; (try simp only [c4b0])
  obtain rfl := Option.some.inj H
  go_enter Try.func72, Try.ntmps72
  go_wp2
  go_ret
  exact ⟨by first | rfl | (simp; done) | (simp [*]; done), by repeat (first | exact Drawn0.refl _ | apply Drawn0.step)⟩
 ·rw [if_neg c4] at H; have c4b0 : decide (a1 ≤ a0) = false := decide_eq_false c4; clear c4; (try simp only [c4b0])
  obtain rfl := Option.some.inj H
  go_enter Try.func72, Try.ntmps72
  go_wp2
  go_ret
  exact ⟨by first | rfl | (simp; done) | (simp [*]; done), by repeat (first | exact Drawn0.refl _ | apply Drawn0.step)⟩

/-! ### impl_isId: function 139 -/
def impl_isId.f (a0 : Int) : Option (Bool) := (impl_within.f a0 0 2147483647).bind fun t176 => (some t176)
set_option maxHeartbeats 8000000 in
set_option maxRecDepth 100000 in
theorem impl_isId.calls (a0 : Int) (r : Bool) (w : World) (h : impl_isId.f a0 = some r) :
  Calls Try.prog 139 #[.int .i64 a0] w fun e w' => e = .returned (.bool r) ∧ Drawn0 w w' := by
 have H : ((impl_within.f a0 0 2147483647).bind fun t176 => (some t176)) = some r := h
 clear h; replace H := Option.bind_eq_some_iff.mp H; obtain ⟨t176, A20, H⟩ := H; have A2 := Aside0.mk A20; clear A20
 obtain rfl := Option.some.inj H
 go_enter Try.func139, Try.ntmps139
 go_wp2_with (first | ((with_reducible refine gate_callee (f := 72) rfl ?_); refine goesL_ (some 4) rfl rfl Try.func72 (by kernel_rfl) rfl #[.int .i64 a0, .int .i64 0, .int .i64 2147483647] rfl (by (try simp only [List.map_toArray, List.map_cons, List.map_nil]); first | done | rfl | (simp only [List.length_drop, List.length_take]; rfl)) ?_; (with_reducible refine (impl_within.calls a0 0 2147483647 t176 _ A2.out).mono ?_); rintro e w' ⟨rfl, ⟨nd, rfl⟩⟩; refine ⟨_, rfl, ?_⟩))
 go_ret
 exact ⟨by first | rfl | (simp; done) | (simp [*]; done), by repeat (first | exact Drawn0.refl _ | apply Drawn0.step)⟩

-- NOT PRINTED: function 173 (impl_Timer_173)

end Go.Proofs.Ytigoajblljolcaa.XFnExactWheelStop
