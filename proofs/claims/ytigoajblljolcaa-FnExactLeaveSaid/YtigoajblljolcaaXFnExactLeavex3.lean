-- Written by this session's own program (xprint.py) over the kit's print.
import Derived.Test.YtigoajblljolcaaXFnExactLeavex0
import Derived.Test.YtigoajblljolcaaXFnExactLeavex1
import Derived.Test.YtigoajblljolcaaXFnExactLeavex2
namespace Go.Proofs.Ytigoajblljolcaa.XFnExactLeave
open Go.RowKit Go.Proofs.YtigoajblljolcaaW.PrintWords Go.Proofs.YtigoajblljolcaaW.PrintLast Go.Proofs.YtigoajblljolcaaW.PrintMore
attribute [local go_sem] max2_int min2_int max_two min_two max_three min_three max_four min_four   -- for this text's walks alone
set_option linter.unusedVariables false
set_option linter.unusedSimpArgs false

/-! ### spec_l10own: function 78 -/
def spec_l10own.f (a0_0 : Int) (l0_1 : List (S82)) : Option (Int × (List (S82))) := (some (([] : List (S82)) : List (S82))).bind fun y117 => (if y117.length + l0_1.length < 5864062014805 then (some (a0_0, (y117 ++ l0_1))) else (none))
def spec_l10own.T1 : Bool × List (List Nat × List Nat) := (true, [([], []), ([0], [0]), ([], []), ([], []), ([3], [3]), ([2, 4], [2, 4]), ([1, 5], [1, 5]), ([6, 5, 0, 1, 2, 3, 4, 5, 6], [6])])
def spec_l10own.B1 : List Nat := [0, 1, 0, 0, 8, 28, 63, 127]
theorem spec_l10own.tab1 : rtab .any (opsOf Try.f78 1) = spec_l10own.T1 := by kernel_rfl
theorem spec_l10own.bits1 : waitsOk spec_l10own.T1.2 spec_l10own.B1 = true := by kernel_rfl
set_option maxHeartbeats 8000000 in
set_option maxRecDepth 100000 in
theorem spec_l10own.calls (a0_0 : Int) (A0_1 : Option Addr) (c0_1 : Nat) (l0_1 : List (S82)) (r1 : Int) (r2 : List (S82)) (w : World) (hr0_1 : Kd.C k82 w A0_1 l0_1.length l0_1) (hc0_1 : l0_1.length ≤ c0_1) (h : spec_l10own.f a0_0 l0_1 = some (r1, r2)) :
  Calls Try.prog 78 #[.agg #[.int .i64 a0_0, .slice A0_1 l0_1.length c0_1]] w fun e w' => ∃ v1_ : Value, e = .returned (.agg #[.int .i64 r1, v1_]) ∧ Kd.R k82 82 w' w.heap.size (fun _ => True) v1_ r2 ∧ Below w.heap.size w w' := by
 have hu41 := Try.underlying41
 have HR0_1 := Aside0.mk hr0_1; have HC0_1 := Aside0.mk hc0_1; clear hr0_1 hc0_1
 have HB := Aside0.mk (Below.refl w.heap.size w)
 have H : ((some (([] : List (S82)) : List (S82))).bind fun y117 => (if y117.length + l0_1.length < 5864062014805 then (some (a0_0, (y117 ++ l0_1))) else (none))) = some (r1, r2) := h
 clear h
 obtain ⟨y117, hy117⟩ : ∃ y_ : List (S82), y_ = (([] : List (S82))) := ⟨_, rfl⟩
 replace H : (if y117.length + l0_1.length < 5864062014805 then (some (a0_0, (y117 ++ l0_1))) else (none)) = some (r1, r2) := by first | (rw [hy117]; with_reducible exact H) | (have H2_ := (Option.bind_some _ _).symm.trans H; rw [hy117]; with_reducible exact H2_) | (have H2_ := (Option.bind_some _ _).symm.trans H; with_reducible exact H2_) | with_reducible exact H | (rw [hy117]; exact H) | exact H
 have Ny117 := Aside0.mk hy117; clear hy117
 by_cases c2 : y117.length + l0_1.length < 5864062014805
 ·rw [if_pos c2] at H; have LMc2 := Aside0.mk c2; clear c2
  obtain ⟨y120, hy120⟩ : ∃ y_ : List (S82), y_ = (y117 ++ l0_1) := ⟨_, rfl⟩
  replace H : (some (a0_0, y120)) = some (r1, r2) := by first | (rw [hy120]; with_reducible exact H) | (have H2_ := (Option.bind_some _ _).symm.trans H; rw [hy120]; with_reducible exact H2_) | (have H2_ := (Option.bind_some _ _).symm.trans H; with_reducible exact H2_) | with_reducible exact H | (rw [hy120]; exact H) | exact H
  have Ny120 := Aside0.mk hy120; clear hy120; simp only [Option.some.injEq, Prod.mk.injEq] at H; obtain ⟨rfl, rfl⟩ := H; go_enter Try.func78, Try.ntmps78
  try go_wp2_with (first | ((with_reducible refine gate_dst (N := 1) rfl ?_); refine box_event ?hg (N := 1) ?hd (cs := #[.int .i64 a0_0, .slice A0_1 l0_1.length c0_1]) (t := 41) ?hr ?_; (case hd => rfl); (case hg => rfl); (case hr => first | (go_simp; done) | (go_simp; rfl)); intro gb115 hg w3 hbox hb; have n_ := an (below_step (by exact bel0) hb) (an (hbox) (an ((by rw [hg]; exact (below_size (by exact bel0)) : w.heap.size ≤ gb115)) (an ((by rw [hg]; exact (below_size (by exact bel0)) : w.heap.size ≤ gb115)) (trivial)))); clear HB; obtain ⟨HB, BK115, GW115, GE115, -⟩ := n_; clear hb hbox hg) | ((with_reducible refine gate_dst (N := 2) rfl ?_); refine box_event ?hg (N := 2) ?hd (cs := #[.int .i64 0, .slice none 0 0]) (t := 41) ?hr ?_; (case hd => rfl); (case hg => rfl); (case hr => first | (go_simp; done) | (go_simp; rfl)); intro gb116 hg w4 hbox hb; have n_ := an (blk_below (blk_nw BK115.out) hb) (an (below_step (by exact bel0) hb) (an (hbox) (an ((by rw [hg]; exact (below_size (by exact bel0)) : w.heap.size ≤ gb116)) (an ((by rw [hg]; exact (below_size (by exact bel0)) : w.heap.size ≤ gb116)) (an ((by rw [hg]; exact Nat.ne_of_lt (blk_lt (blk_nw BK115.out)) : gb115 ≠ gb116)) (an ((by rw [hg]; exact Nat.ne_of_gt (blk_lt (blk_nw BK115.out)) : gb116 ≠ gb115)) (trivial))))))); clear BK115 HB; obtain ⟨BK115, HB, BK116, GW116, GE116, NB115_116, NB116_115, -⟩ := n_; clear hb hbox hg))
  have n_ := an (blk_drew BK115.out) (an (blk_drew BK116.out) (an (below_drew1 HB.out) (trivial)))
  clear BK115 BK116 HB
  obtain ⟨BK115, BK116, HB, -⟩ := n_
  refine start_ (n := 8) (S := fun w' => w'.cell? ⟨gb115, 0, none⟩ = some (.int .i64 a0_0) ∧ w'.cell? ⟨gb115, 1, none⟩ = some (.slice A0_1 l0_1.length c0_1)) (ds := []) #[false, false, false, false, false, false, false, false] (by kernel_rfl) rfl rfl ⟨(blk_cell BK115.out 0).trans rfl, (blk_cell BK115.out 1).trans rfl⟩ (fun hHeld => ?_); refine with_tabW spec_l10own.tab1 spec_l10own.bits1 (fun HT_ HW_ => ?_)
  generalize w4.drew = w5 at BK115 BK116 HB hHeld ⊢
  refine pure_ (i := 0) (N := some 3) (v := ?_) (a' := ?_) #[true, false, false, false, false, false, false, false] rfl rfl (any_of HT_.out (by kernel_rfl)) (fun _ _ _ h => h) (Or.inl ⟨by rfl, ?_⟩) ?_ ?_
  rotate_left
  ·intro w'
   go_simp
   with_reducible rfl
  rotate_left
  ·simp only [Act.put, List.setIfInBounds_toArray, List.set_cons_zero, List.set_cons_succ, i64_w, i32_w]
   rfl
  refine pure_ (i := 3) (N := some 6) (v := ?_) (a' := ?_) #[true, false, false, true, false, false, false, false] rfl rfl (any_of HT_.out (by kernel_rfl)) (fun _ _ _ h => h) (Or.inl ⟨by rfl, ?_⟩) ?_ ?_
  rotate_left
  ·intro w'
   go_simp
   with_reducible rfl
  rotate_left
  ·simp only [Act.put, List.setIfInBounds_toArray, List.set_cons_zero, List.set_cons_succ, i64_w, i32_w]
   rfl
  refine take_ (i := 1) (N := some 4) (v := ?_) (a' := ?_) #[true, true, false, true, false, false, false, false] rfl rfl (take_ofW HT_.out HW_.out (by kernel_rfl)) (fun _ _ _ h => h) (Or.inl ⟨by rfl, ?_⟩) hHeld ?_ ?_
  rotate_left
  ·rintro w' ⟨s0, s1⟩
   go_simp
   with_reducible rfl
  rotate_left
  ·simp only [Act.put, List.setIfInBounds_toArray, List.set_cons_zero, List.set_cons_succ, i64_w, i32_w]
   rfl
  refine take_ (i := 4) (N := some 7) (v := ?_) (a' := ?_) #[true, true, false, true, true, false, false, false] rfl rfl (take_ofW HT_.out HW_.out (by kernel_rfl)) (fun _ _ _ h => h) (Or.inl ⟨by rfl, ?_⟩) hHeld ?_ ?_
  rotate_left
  ·rintro w' ⟨s0, s1⟩
   go_simp
   with_reducible rfl
  rotate_left
  ·simp only [Act.put, List.setIfInBounds_toArray, List.set_cons_zero, List.set_cons_succ, i64_w, i32_w]
   rfl
  refine one_ (i := 2) (N := some 5) #[true, true, true, true, true, false, false, false] rfl rfl (one_of HT_.out (by kernel_rfl)) (by decide) (fun K hK => ?_)
  refine Kd.R_lit_step k82 _ 82 ?hg (N := 5) ?hd (xs := ([] : List (S82))) (inner := []) (ok := fun _ => True) (okp := fun _ => True) ?hr ?hp (fun _ hk => hk) trivial (Below.refl _ _) (Nat.le_refl _) (by simp) ?_; (case hd => rfl); (case hg => rfl); (case hr => first | (go_simp; done) | (go_simp; rfl)); (case hp => exact (Reps.none _ _))
  intro v118 w6 ho7 hb hg_ hnew_
  clear hg_ hnew_
  (first | rw [← Ny117.out] at ho7 | (simp only [Int.reduceToNat] at ho7; rw [← Ny117.out] at ho7))
  have n_ := an (Kd.R_lower ho7 (below_size (by exact bel0))) (an (blk_below (blk_nw BK115.out) hb) (an (blk_below (blk_nw BK116.out) hb) (an (below_step (by exact bel0) hb) (trivial))))
  clear BK115 BK116 HB
  obtain ⟨HO119, BK115, BK116, HB, -⟩ := n_
  clear hb ho7
  refine hK.out _ _ ⟨(blk_cell BK115.out 0).trans rfl, (blk_cell BK115.out 1).trans rfl⟩ (fun hHeld => ?_)
  clear hK K
  refine norm_ (a' := ?_) ?_ ?_
  rotate_left
  ·show Act.put _ (some 5) _ = _
   simp only [Act.put, List.setIfInBounds_toArray, List.set_cons_zero, List.set_cons_succ, i64_w, i32_w]
   rfl
  refine one_ (i := 5) (N := some 8) #[true, true, true, true, true, true, false, false] rfl rfl (one_of HT_.out (by kernel_rfl)) (by decide) (fun K hK => ?_)
  refine Kd.R_append_rows_step k82 (w0 := w) w.heap.size (by rfl) (.tmp 5) (.tmp 7) 39 82 (.agg #[(.int .i64 0), (.int .i64 0), (.int .i64 0)]) 24 rfl Try.underlying39 info82 rfl (by decide) (by omega) v118 y117 l0_1 _ _ _ (fun _ => True) (fun _ => False) rfl rfl ?aO ?aR (fun _ _ h => h) (fun _ h => h.elim) ?aF ?aB ?aS ?aL ?_
  (case aR => repeat (first | exact (Kd.C_below HR0_1.out HB.out) | (with_reducible refine Kd.C_alloc ?_ _) | (with_reducible refine Kd.C_drewN ?_ _) | (with_reducible refine Kd.C_drew ?_)))
  (case aB => exact (by exact bel0))
  (case aF => exact (fun _ _ => trivial))
  (case aO => exact (by exact Kd.R_nw HO119.out))
  (case aS => exact (below_size (by exact bel0)))
  (case aL => have := LMc2.out; omega)
  intro v121 w8 ho hb hg hat
  rw [← Ny120.out] at ho
  have n_ := an (blk_grown (blk_nw BK115.out) hg (Kd.R_ne HO119.out BK115.out (by decide))) (an (blk_grown (blk_nw BK116.out) hg (Kd.R_ne HO119.out BK116.out (by decide))) (an (hb) (an (ho) (trivial))))
  clear BK115 BK116 HB HO119
  obtain ⟨BK115, BK116, HB, HO122, -⟩ := n_
  clear ho hb hg hat
  obtain ⟨Ao9, co9, eo9⟩ := Kd.R_slice HO122.out
  (first | subst eo9 | (injection eo9 with f1_ f2_ f3_; have f4_ := f1_.symm; have f5_ := f3_.symm; clear f1_ f2_ f3_; subst f4_; subst f5_))
  refine hK.out _ _ ⟨(blk_cell BK115.out 0).trans rfl, (blk_cell BK115.out 1).trans rfl⟩ (fun hHeld => ?_)
  clear hK K
  refine norm_ (a' := ?_) ?_ ?_
  rotate_left
  ·show Act.put _ (some 8) _ = _
   simp only [Act.put, List.setIfInBounds_toArray, List.set_cons_zero, List.set_cons_succ, i64_w, i32_w]
   rfl
  refine pure_ (i := 6) (N := some 9) (v := ?_) (a' := ?_) #[true, true, true, true, true, true, true, false] rfl rfl (any_of HT_.out (by kernel_rfl)) (fun _ _ _ h => h) (Or.inl ⟨by rfl, ?_⟩) ?_ ?_
  rotate_left
  ·intro w'
   go_simp
   with_reducible rfl
  rotate_left
  ·simp only [Act.put, List.setIfInBounds_toArray, List.set_cons_zero, List.set_cons_succ, i64_w, i32_w]
   rfl
  refine one_ (i := 7) (N := none) #[true, true, true, true, true, true, true, true] rfl rfl (one_of HT_.out (by kernel_rfl)) (by decide) (fun K hK => ?_)
  have hs10 : w8.cell? ⟨gb116, 0, none⟩ = some (.int .i64 0) := (blk_cell BK116.out 0).trans rfl
  have hfs10 := blk_frozen BK116.out 0
  have hns10_0 := NB115_116.out; have hms10_0 := NB116_115.out
  have hs11 : w8.cell? ⟨gb116, 1, none⟩ = some (.slice none 0 0) := (blk_cell BK116.out 1).trans rfl
  have hfs11 := blk_frozen BK116.out 1
  have hns11_0 := NB115_116.out; have hms11_0 := NB116_115.out
  refine skip_ (w1 := ?_) (by rfl) rfl ?_ ?_
  rotate_left
  ·go_simp
   rfl
  refine hK.out _ _ ⟨((cell_far (p := ⟨gb116, _, none⟩) NB115_116.out _).trans (((cell_far (p := ⟨gb116, _, none⟩) NB115_116.out _).trans (hHeld.1)))), ((cell_far (p := ⟨gb116, _, none⟩) NB115_116.out _).trans (((cell_far (p := ⟨gb116, _, none⟩) NB115_116.out _).trans (hHeld.2))))⟩ (fun hHeld => ?_)
  clear hK K
  refine done_ (done_of HT_.out (by kernel_rfl)) ?_
  try go_wp2
  refine bodyPost_ret (results_cell_row rfl _ _ gb116 41 #[.int .i64 a0_0, .slice Ao9 y120.length co9] (0, 0) _ rfl (by (with_reducible repeat (first | refine blk_drewN ?_ _ | refine blk_drew ?_ | refine blk_alloc ?_ _)); exact blk_fill2 BK116.out) Try.underlying41 rfl (by kernel_rfl)) rfl ?_
  exact ⟨_, by first | rfl | (simp [errW_none, errW_some] <;> rfl) | (simp [*, errW_none, errW_some] <;> rfl), by exact (Kd.R_farN HO122.out BK116.out), by exact bel0⟩
 ·rw [if_neg c2] at H
  exact absurd H (by simp)

/-! ### spec_Leave: function 24 -/
def spec_Leave.f (k : Nat) (a0_0 : Int) (l0_1 : List (S82)) : Option (Int × (List (S82)) × Bool) := (spec_TableOk.f k a0_0 l0_1).bind fun t125 => (if t125 = true then ((spec_l10own.f a0_0 l0_1).bind fun bt126 => ((spec_l10find.f k bt126.1 bt126.2 a0_0).bind fun t131 => (if 0 ≤ t131 then (if t131 < (bt126.2.length : Int) then (if ((rd_T82 bt126.2 t131).f1) = 3 then (some (bt126.1, bt126.2, false)) else (some (bt126.1, (bt126.2.set (t131 : Int).toNat (⟨(rd_T82 bt126.2 t131).f0, 3, (rd_T82 bt126.2 t131).f2⟩ : S82)), true))) else (none)) else (none)))) else (some (0, ([] : List (S82)), false)))
theorem spec_Leave.mono : ∀ a0 a1 k, LeO (spec_Leave.f k a0 a1) (spec_Leave.f (k + 1) a0 a1) := by
 intro a0 a1 k
 unfold spec_Leave.f
 repeat' first
   | (with_reducible exact spec_TableOk.mono _ _ _)
   | (with_reducible exact spec_l10find.mono _ _ _ _)
   | (with_reducible exact LeO.refl _)
   | (with_reducible exact LeO.none _)
   | (with_reducible refine LeO.ite ?_ ?_)
   | (with_reducible refine LeO.bind ?_ (fun _ => ?_))
   | exact spec_TableOk.mono _ _ _
   | exact spec_l10find.mono _ _ _ _
   | exact LeO.none _
   | refine LeO.ite ?_ ?_
   | refine LeO.bind ?_ (fun _ => ?_)
set_option maxHeartbeats 8000000 in
set_option maxRecDepth 100000 in
theorem spec_Leave.calls (k : Nat) (a0_0 : Int) (A0_1 : Option Addr) (c0_1 : Nat) (l0_1 : List (S82)) (r1 : Int) (r2 : List (S82)) (r3 : Bool) (w : World) (hr0_1 : Kd.C k82 w A0_1 l0_1.length l0_1) (hc0_1 : l0_1.length ≤ c0_1) (h : spec_Leave.f k a0_0 l0_1 = some (r1, r2, r3)) :
  Calls Try.prog 24 #[.agg #[.int .i64 a0_0, .slice A0_1 l0_1.length c0_1]] w fun e w' => ∃ v1_ : Value, e = .returned (.tuple #[.agg #[.int .i64 r1, v1_], .bool r3]) ∧ Kd.R k82 82 w' w.heap.size (fun _ => True) v1_ r2 ∧ Below w.heap.size w w' := by
 have hu41 := Try.underlying41
 have HR0_1 := Aside0.mk hr0_1; have HC0_1 := Aside0.mk hc0_1; clear hr0_1 hc0_1
 have HB := Aside0.mk (Below.refl w.heap.size w)
 have H : ((spec_TableOk.f k a0_0 l0_1).bind fun t125 => (if t125 = true then ((spec_l10own.f a0_0 l0_1).bind fun bt126 => ((spec_l10find.f k bt126.1 bt126.2 a0_0).bind fun t131 => (if 0 ≤ t131 then (if t131 < (bt126.2.length : Int) then (if ((rd_T82 bt126.2 t131).f1) = 3 then (some (bt126.1, bt126.2, false)) else (some (bt126.1, (bt126.2.set (t131 : Int).toNat (⟨(rd_T82 bt126.2 t131).f0, 3, (rd_T82 bt126.2 t131).f2⟩ : S82)), true))) else (none)) else (none)))) else (some (0, ([] : List (S82)), false)))) = some (r1, r2, r3) := h
 clear h; replace H := Option.bind_eq_some_iff.mp H; obtain ⟨t125, A20, H⟩ := H; have A2 := Aside0.mk A20; clear A20; go_enter Try.func24, Try.ntmps24
 replace H := Aside0.mk H
 go_wp2_with (first | ((with_reducible refine gate_dst (N := 1) rfl ?_); refine box_event ?hg (N := 1) ?hd (cs := #[.int .i64 a0_0, .slice A0_1 l0_1.length c0_1]) (t := 41) ?hr ?_; (case hd => rfl); (case hg => rfl); (case hr => first | (go_simp; done) | (go_simp; rfl)); intro gb123 hg w3 hbox hb; have n_ := an (below_step (by exact bel0) hb) (an (hbox) (an ((by rw [hg]; exact (below_size (by exact bel0)) : w.heap.size ≤ gb123)) (an ((by rw [hg]; exact (below_size (by exact bel0)) : w.heap.size ≤ gb123)) (trivial)))); clear HB; obtain ⟨HB, BK123, GW123, GE123, -⟩ := n_; clear hb hbox hg) | ((with_reducible refine gate_dst (N := 2) rfl ?_); refine box_event ?hg (N := 2) ?hd (cs := #[.int .i64 0, .slice none 0 0]) (t := 41) ?hr ?_; (case hd => rfl); (case hg => rfl); (case hr => first | (go_simp; done) | (go_simp; rfl)); intro gb124 hg w4 hbox hb; have n_ := an (blk_below (blk_nw BK123.out) hb) (an (below_step (by exact bel0) hb) (an (hbox) (an ((by rw [hg]; exact (below_size (by exact bel0)) : w.heap.size ≤ gb124)) (an ((by rw [hg]; exact (below_size (by exact bel0)) : w.heap.size ≤ gb124)) (an ((by rw [hg]; exact Nat.ne_of_lt (blk_lt (blk_nw BK123.out)) : gb123 ≠ gb124)) (an ((by rw [hg]; exact Nat.ne_of_gt (blk_lt (blk_nw BK123.out)) : gb124 ≠ gb123)) (trivial))))))); clear BK123 HB; obtain ⟨BK123, HB, BK124, GW124, GE124, NB123_124, NB124_123, -⟩ := n_; clear hb hbox hg; have hnb5 := NB123_124.out; have hnc5 := NB124_123.out; obtain ⟨hcz6_0, hcz6_1⟩ := blkz2 BK123.out; have hfz6_0 := blkf BK123.out) | ((with_reducible refine gate_callee (f := 77) rfl ?_); refine goesL_ (some 7) rfl rfl Try.func77 (by kernel_rfl) rfl #[.agg #[.int .i64 a0_0, .slice A0_1 l0_1.length c0_1]] rfl (by (try simp only [List.map_toArray, List.map_cons, List.map_nil]); first | done | rfl | (simp only [List.length_drop, List.length_take]; rfl)) ?_; (with_reducible refine (spec_TableOk.calls k a0_0 _ _ l0_1 t125 _ ?side1 ?side2 A2.out).mono ?_); (case side1 => repeat (first | exact (Kd.C_below HR0_1.out HB.out) | (with_reducible refine Kd.C_alloc ?_ _) | (with_reducible refine Kd.C_drewN ?_ _) | (with_reducible refine Kd.C_drew ?_))); (case side2 => exact HC0_1.out); rintro e w7 ⟨rfl, hb⟩; refine ⟨_, rfl, ?_⟩; have n_ := an (blk_below (blk_nw BK123.out) hb) (an (blk_below (blk_nw BK124.out) hb) (an (below_step (by exact bel0) hb) (trivial))); clear BK123 BK124 HB; obtain ⟨BK123, BK124, HB, -⟩ := n_; (try clear hb); (try clear hb2); (try clear hk); (try clear hi); refine Stop.out ?_))
 refine Stop.mk ?_
 replace H := H.out
 by_cases c8 : t125 = true
 ·subst c8; rw [if_pos rfl] at H; replace H := Option.bind_eq_some_iff.mp H
  obtain ⟨⟨t126, t127⟩, A90, H⟩ := H
  replace H : ((spec_l10find.f k t126 t127 a0_0).bind fun t131 => (if 0 ≤ t131 then (if t131 < (t127.length : Int) then (if ((rd_T82 t127 t131).f1) = 3 then (some (t126, t127, false)) else (some (t126, (t127.set (t131 : Int).toNat (⟨(rd_T82 t127 t131).f0, 3, (rd_T82 t127 t131).f2⟩ : S82)), true))) else (none)) else (none))) = some (r1, r2, r3) := H
  have A9 := Aside0.mk A90; clear A90; replace H := Option.bind_eq_some_iff.mp H; obtain ⟨t131, A100, H⟩ := H; have A10 := Aside0.mk A100; clear A100; have hnb11 := NB123_124.out; have hnc11 := NB124_123.out; obtain ⟨hcz12_0, hcz12_1⟩ := blkz2 BK123.out; have hfz12_0 := blkf BK123.out
  replace H := Aside0.mk H
  go_wp2_with (first | ((with_reducible refine gate_callee (f := 78) rfl ?_); refine goesL_ (some 11) rfl rfl Try.func78 (by kernel_rfl) rfl #[.agg #[.int .i64 a0_0, .slice A0_1 l0_1.length c0_1]] rfl (by (try simp only [List.map_toArray, List.map_cons, List.map_nil]); first | done | rfl | (simp only [List.length_drop, List.length_take]; rfl)) ?_; (with_reducible refine (spec_l10own.calls a0_0 _ _ l0_1 t126 t127 _ ?side1 ?side2 A9.out).mono ?_); (case side1 => repeat (first | exact (Kd.C_below HR0_1.out HB.out) | (with_reducible refine Kd.C_alloc ?_ _) | (with_reducible refine Kd.C_drewN ?_ _) | (with_reducible refine Kd.C_drew ?_))); (case side2 => exact HC0_1.out); rintro e w13 ⟨v128, rfl, ho0, hb⟩; refine ⟨_, rfl, ?_⟩; have n_ := an (Kd.R_lower ho0 (below_size (by exact bel0))) (an (blk_below (blk_nw BK123.out) hb) (an (blk_below (blk_nw BK124.out) hb) (an (below_step (by exact bel0) hb) (trivial)))); clear BK123 BK124 HB; obtain ⟨HO129, BK123, BK124, HB, -⟩ := n_; (try clear hb); (try clear hb2); (try clear hk); (try clear hi); (try clear ho0)) | ((with_reducible refine gate_dst (N := 4) rfl ?_); refine box_event ?hg (N := 4) ?hd (cs := #[.int .i64 0, .slice none 0 0]) (t := 41) ?hr ?_; (case hd => rfl); (case hg => rfl); (case hr => first | (go_simp; done) | (go_simp; rfl)); intro gb130 hg w14 hbox hb; have n_ := an (Kd.R_below (by exact Kd.R_nw HO129.out) hb) (an (blk_below (blk_nw BK123.out) hb) (an (blk_below (blk_nw BK124.out) hb) (an (below_step (by exact bel0) hb) (an (hbox) (an ((by rw [hg]; exact (below_size (by exact bel0)) : w.heap.size ≤ gb130)) (an ((by rw [hg]; exact (below_size (by exact bel0)) : w.heap.size ≤ gb130)) (an ((by rw [hg]; exact Nat.ne_of_lt (blk_lt (blk_nw BK123.out)) : gb123 ≠ gb130)) (an ((by rw [hg]; exact Nat.ne_of_gt (blk_lt (blk_nw BK123.out)) : gb130 ≠ gb123)) (an ((by rw [hg]; exact Nat.ne_of_lt (blk_lt (blk_nw BK124.out)) : gb124 ≠ gb130)) (an ((by rw [hg]; exact Nat.ne_of_gt (blk_lt (blk_nw BK124.out)) : gb130 ≠ gb124)) (trivial))))))))))); clear HO129 BK123 BK124 HB; obtain ⟨HO129, BK123, BK124, HB, BK130, GW130, GE130, NB123_130, NB130_123, NB124_130, NB130_124, -⟩ := n_; clear hb hbox hg; have hnb15 := NB130_123.out; have hnc15 := NB123_130.out; have hnb16 := NB130_124.out; have hnc16 := NB124_130.out; obtain ⟨hcz17_0, hcz17_1⟩ := blkz2 BK130.out; have hfz17_0 := blkf BK130.out; obtain ⟨Ao18, co18, eo18⟩ := Kd.R_slice HO129.out; subst eo18; obtain ⟨hcz19_0, hcz19_1⟩ := blkz2 BK123.out; have hfz19_0 := blkf BK123.out) | ((with_reducible refine gate_callee (f := 79) rfl ?_); refine goesL_ (some 15) rfl rfl Try.func79 (by kernel_rfl) rfl #[.agg #[.int .i64 t126, .slice Ao18 t127.length co18], .int .i64 a0_0] rfl (by (try simp only [List.map_toArray, List.map_cons, List.map_nil]); first | done | rfl | (simp only [List.length_drop, List.length_take]; rfl)) ?_; (with_reducible refine (spec_l10find.calls k t126 _ _ t127 a0_0 t131 _ ?side1 ?side2 A10.out).mono ?_); (case side1 => refine (Kd.R_reads' (e := 82) (base := w.heap.size) (ok := fun k_ => True) (n := t127.length) (c := co18) ?_).2.2; exact (by exact (Kd.R_farN HO129.out BK130.out))); (case side2 => exact (Kd.R_reads' HO129.out).2.1); rintro e w20 ⟨rfl, hb⟩; refine ⟨_, rfl, ?_⟩; have n_ := an (Kd.R_below (by exact (Kd.R_farN HO129.out BK130.out)) hb) (an (blk_below (blk_kb BK123.out NB123_130.out) hb) (an (blk_below (blk_kb BK124.out NB124_130.out) hb) (an (blk_below (g := gb130) (o := .cells #[.int .i64 t126, .slice Ao18 t127.length co18] 41 (0, 0)) (by (with_reducible repeat (first | refine blk_drewN ?_ _ | refine blk_drew ?_ | refine blk_alloc ?_ _)); exact blk_fill2 BK130.out) hb) (an (below_step (by exact bel0) hb) (trivial))))); clear HO129 BK123 BK124 BK130 HB; obtain ⟨HO129, BK123, BK124, BK130, HB, -⟩ := n_; (try clear hb); (try clear hb2); (try clear hk); (try clear hi); obtain ⟨hcz21_0, hcz21_1⟩ := blkz2 BK130.out; have hfz21_0 := blkf BK130.out; refine Stop.out ?_))
  refine Stop.mk ?_
  replace H := H.out
  by_cases c22 : 0 ≤ t131
  ·rw [if_pos c22] at H; have c22b0 : decide (0 ≤ t131) = true := decide_eq_true c22; clear c22; (try simp only [c22b0])
   by_cases c23 : t131 < (t127.length : Int)
   ·rw [if_pos c23] at H
    have c23b0 : decide (t131 < (t127.length : Int)) = true := decide_eq_true c23
    clear c23; (try simp only [c23b0])
    by_cases c24 : ((rd_T82 t127 t131).f1) = 3
    ·rw [if_pos c24] at H; have c24b0 : (((rd_T82 t127 t131).f1) == 3) = true := beq_iff_eq.mpr c24; have c24b1 : (((rd_T82 t127 t131).f1) != 3) = false := bne_eq_false_iff_eq.mpr c24; clear c24; simp only [Option.some.injEq, Prod.mk.injEq] at H; obtain ⟨rfl, rfl, rfl⟩ := H
     have p132 : 0 ≤ (t131 : Int) := of_decide_eq_true (by first | (with_reducible assumption) | assumption)
     have q132 : t131 < (t127.length : Int) := of_decide_eq_true (by first | (with_reducible assumption) | assumption)
     obtain ⟨ad132, e132, hx132_0, hx132_1, hx132_2⟩ := at_T82 (Kd.R_reads' HO129.out).2.2 t131 p132 q132
     cases e132
     replace p132 := eq_true p132
     replace q132 := eq_true q132
     have hnb25 := NB130_123.out; have hnc25 := NB123_130.out; have hnb26 := NB130_124.out; have hnc26 := NB124_130.out; obtain ⟨hcz27_0, hcz27_1⟩ := blkz2 BK130.out; have hfz27_0 := blkf BK130.out; have hnb28 := NB124_123.out; have hnc28 := NB123_124.out; obtain ⟨hcz29_0, hcz29_1⟩ := blkz2 BK124.out; have hfz29_0 := blkf BK124.out
     go_wp2
     refine bodyPost_ret (results_ct rfl _ _ gb124 41 #[.int .i64 t126, .slice (some ad132) t127.length co18] (0, 0) _ rfl (by (with_reducible repeat (first | refine blk_drewN ?_ _ | refine blk_drew ?_ | refine blk_alloc ?_ _)); exact blk_fill2 BK124.out) Try.underlying41 rfl (by kernel_rfl)) rfl ?_
     exact ⟨_, by first | rfl | (simp [errW_none, errW_some] <;> rfl) | (simp [*, errW_none, errW_some] <;> rfl), by exact (Kd.R_farN HO129.out BK124.out), by exact bel0⟩
    ·rw [if_neg c24] at H; have c24b0 : (((rd_T82 t127 t131).f1) == 3) = false := beq_eq_false_iff_ne.mpr c24; have c24b1 : (((rd_T82 t127 t131).f1) != 3) = true := bne_iff_ne.mpr c24
     obtain ⟨y133, hy133⟩ : ∃ y_ : List (S82), y_ = (t127.set (t131 : Int).toNat (⟨(rd_T82 t127 t131).f0, 3, (rd_T82 t127 t131).f2⟩ : S82)) := ⟨_, rfl⟩
     replace H : (some (t126, y133, true)) = some (r1, r2, r3) := by first | (rw [hy133]; with_reducible exact H) | (have H2_ := (Option.bind_some _ _).symm.trans H; rw [hy133]; with_reducible exact H2_) | (have H2_ := (Option.bind_some _ _).symm.trans H; with_reducible exact H2_) | with_reducible exact H | (rw [hy133]; exact H) | exact H
     have Ny133 := Aside0.mk hy133; clear hy133; simp only [Option.some.injEq, Prod.mk.injEq] at H; obtain ⟨rfl, rfl, rfl⟩ := H
     have p132 : 0 ≤ (t131 : Int) := of_decide_eq_true (by first | (with_reducible assumption) | assumption)
     have q132 : t131 < (t127.length : Int) := of_decide_eq_true (by first | (with_reducible assumption) | assumption)
     obtain ⟨ad132, e132, hx132_0, hx132_1, hx132_2⟩ := at_T82 (Kd.R_reads' HO129.out).2.2 t131 p132 q132
     cases e132
     replace p132 := eq_true p132
     replace q132 := eq_true q132
     have hnb31 := NB130_123.out; have hnc31 := NB123_130.out; have hnb32 := NB130_124.out; have hnc32 := NB124_130.out; obtain ⟨hcz33_0, hcz33_1⟩ := blkz2 BK130.out; have hfz33_0 := blkf BK130.out
     have p30 : 0 ≤ (t131 : Int) := of_decide_eq_true (by first | (with_reducible assumption) | assumption)
     have q30 : (t131 : Int) < ((t127.length : Int) : Int) := of_decide_eq_true (by first | (with_reducible assumption) | assumption)
     obtain ⟨go30, co30, eo30, gb30, gl30, cl30, HG30⟩ := Kd.R_form HO129.out (by omega)
     (first | cases eo30 | (injection eo30 with ea_ en_ ec_; (first | subst ea_ | (injection ea_ with ea_; subst ea_)); subst ec_; clear en_))
     have GB30 := Aside0.mk gb30; have GG30 := Aside0.mk HG30; clear gb30 gl30 HG30
     (first | simp only [add_plain] at hx132_0 | skip)
     (first | simp only [add_plain] at hx132_1 | skip)
     (first | simp only [add_plain] at hx132_2 | skip)
     obtain ⟨ce30, hcl30, hM30, hcc30, hfr30⟩ := Kd.R_elem HO129.out z82 (t131 : Int) p30 q30
     obtain rfl := k82_openM hM30
     have hx30_0 : w20.cell? ⟨go30, (t131 : Int).toNat * 3, none⟩ = some (.int .i64 ((rd_T82 t127 t131).f0)) := hcc30 0 _ rfl
     have hx30_1 : w20.cell? ⟨go30, (t131 : Int).toNat * 3 + 1, none⟩ = some (.int .i64 ((rd_T82 t127 t131).f1)) := hcc30 1 _ rfl
     have hx30_2 : w20.cell? ⟨go30, (t131 : Int).toNat * 3 + 2, none⟩ = some (.int .i64 ((rd_T82 t127 t131).f2)) := hcc30 2 _ rfl
     have hf30_0 : w20.frozen? ⟨go30, (t131 : Int).toNat * 3, none⟩ = false := hfr30 0
     have hf30_1 : w20.frozen? ⟨go30, (t131 : Int).toNat * 3 + 1, none⟩ = false := hfr30 1
     have hf30_2 : w20.frozen? ⟨go30, (t131 : Int).toNat * 3 + 2, none⟩ = false := hfr30 2
     clear hcl30 hcc30 hfr30 hM30
     replace p30 := eq_true p30
     replace q30 := eq_true q30
     have HX34 := Aside0.mk (show Kd.R k82 82 w20 w.heap.size (fun _ => True) (.slice (some ⟨go30, 0, none⟩) t127.length co18) t127 from (by exact Kd.R_nw HO129.out))
     obtain ⟨ce34, hcl34, hM34, hcc34, hfr34⟩ := Kd.R_elem HX34.out z82 (t131 : Int) (of_decide_eq_true (by first | (with_reducible assumption) | assumption)) (by have h_ : (t131 : Int) < ((t127.length : Int) : Int) := of_decide_eq_true (by first | (with_reducible assumption) | assumption); first | exact h_ | (have e_ := (Kd.R_reads' HO129.out).1; omega) | simpa using h_)
     obtain rfl := k82_openM hM34
     have HP34 := Kd.R_seg HX34.out (t131 : Int) (of_decide_eq_true (by first | (with_reducible assumption) | assumption)) (by have h_ : (t131 : Int) < ((t127.length : Int) : Int) := of_decide_eq_true (by first | (with_reducible assumption) | assumption); first | exact h_ | (have e_ := (Kd.R_reads' HO129.out).1; omega) | simpa using h_) (seg := [.int .i64 3]) (j := 1) hcl34 hcc34 (show 2 ≤ 3 from by decide) (x' := (⟨(rd_T82 t127 t131).f0, 3, (rd_T82 t127 t131).f2⟩ : S82)) (k82_mkM _ _ _ (⟨(rd_T82 t127 t131).f0, 3, (rd_T82 t127 t131).f2⟩ : S82) ) (fun _ hk => hk)
     have hx34_1 := hcc34 1 _ rfl
     (try simp only [show (k82).sz = 3 from rfl, Nat.mul_one, Nat.add_zero] at hx34_1)
     have hf34_1 := hfr34 1
     (try simp only [show (k82).sz = 3 from rfl, Nat.mul_one, Nat.add_zero] at hf34_1)
     clear hcl34 hcc34 hfr34 hM34
     go_wp2_with (first | ((with_reducible refine gate_store (t := 3) (p := 28) rfl ?_); refine store_event (t := 3) (p := 28) (v := ?vo_w35) (w1 := (w20.setCell ⟨go30, (t131 : Int).toNat * 3 + 1, none⟩ (.int .i64 3))) ?hg ?ho ?hn ?hr ?_; (case ho => rfl); (case hg => rfl); (case hn => rfl); (case hr => first | (go_simp; done) | (go_simp; rfl)); intro w35 hw; have hg : w20.grownBy w35 (some go30) := (by rw [hw]; exact HP34.2); have hp_ : Kd.R k82 82 w35 w.heap.size (fun _ => True) (.slice (some ⟨go30, 0, none⟩) t127.length co18) y133 := (by rw [hw, Ny133.out]; exact HP34.1); clear HP34; have n_ := an (blk_grown (blk_nw BK123.out) hg (Kd.R_ne HO129.out BK123.out (by decide))) (an (blk_grown (blk_nw BK124.out) hg (Kd.R_ne HO129.out BK124.out (by decide))) (an (hp_) (an (blk_grown (blk_nw BK130.out) hg (Kd.R_ne HO129.out BK130.out (by decide))) (an ((by rw [hw]; exact below_set (HB.out) GB30.out : Below w.heap.size w w35)) (trivial))))); clear BK123 BK124 HO129 BK130 HB; obtain ⟨BK123, BK124, HO129, BK130, HB, -⟩ := n_; clear hg hw hp_; obtain ⟨hcz36_0, hcz36_1⟩ := blkz2 BK130.out; have hfz36_0 := blkf BK130.out; have hnb37 := NB124_123.out; have hnc37 := NB123_124.out; obtain ⟨hcz38_0, hcz38_1⟩ := blkz2 BK124.out; have hfz38_0 := blkf BK124.out))
     refine bodyPost_ret (results_ct rfl _ _ gb124 41 #[.int .i64 t126, .slice (some ⟨go30, 0, none⟩) t127.length co18] (0, 0) _ rfl (by (with_reducible repeat (first | refine blk_drewN ?_ _ | refine blk_drew ?_ | refine blk_alloc ?_ _)); exact blk_fill2 BK124.out) Try.underlying41 rfl (by kernel_rfl)) rfl ?_
     exact ⟨_, by first | rfl | (simp [errW_none, errW_some] <;> rfl) | (simp [*, errW_none, errW_some] <;> rfl), by exact (Kd.R_farN HO129.out BK124.out), by exact bel0⟩
   ·rw [if_neg c23] at H
    exact absurd H (by simp)
  ·rw [if_neg c22] at H
   exact absurd H (by simp)
 ·replace c8 := Bool.eq_false_iff.mpr c8
  subst c8
  rw [if_neg (show ¬ (false = true) by decide)] at H
  simp only [Option.some.injEq, Prod.mk.injEq] at H; obtain ⟨rfl, rfl, rfl⟩ := H; have hnb39 := NB124_123.out; have hnc39 := NB123_124.out; obtain ⟨hcz40_0, hcz40_1⟩ := blkz2 BK124.out; have hfz40_0 := blkf BK124.out
  go_wp2
  refine bodyPost_ret (results_ct rfl _ _ gb124 41 #[.int .i64 0, .slice none 0 0] (0, 0) _ rfl (by (with_reducible repeat (first | refine blk_drewN ?_ _ | refine blk_drew ?_ | refine blk_alloc ?_ _)); exact blk_fill2 BK124.out) Try.underlying41 rfl (by kernel_rfl)) rfl ?_
  exact ⟨_, by first | rfl | (simp [errW_none, errW_some] <;> rfl) | (simp [*, errW_none, errW_some] <;> rfl), by first | exact Kd.R_nil _ _ _ _ _ | exact Kd.N_nil _ _ _ _ _ | exact Kd.V_nil _ _ _ _ _ | exact Kd.Q_nil _ _ _ _ _ | exact Kd.S_nil _ _ _ _ _, by exact bel0⟩

/-! ### laws_toMember: function 52 -/
def laws_toMember.f (a0_0 : Int) (a0_1 : Int) (a0_2 : Int) : Option (Int × Int × Int) := some (a0_0, a0_1, a0_2)
set_option maxHeartbeats 8000000 in
set_option maxRecDepth 100000 in
theorem laws_toMember.calls (a0_0 : Int) (a0_1 : Int) (a0_2 : Int) (r1 : Int) (r2 : Int) (r3 : Int) (w : World) (h : laws_toMember.f a0_0 a0_1 a0_2 = some (r1, r2, r3)) :
  Calls Try.prog 52 #[.agg #[.int .i64 a0_0, .int .i64 a0_1, .int .i64 a0_2]] w fun e w' => e = .returned (.agg #[.int .i64 r1, .int .i64 r2, .int .i64 r3]) ∧ Below w.heap.size w w' := by
 have hu80 := Try.underlying80
 have hu82 := Try.underlying82
 have HB := Aside0.mk (Below.refl w.heap.size w)
 have H : (some (a0_0, a0_1, a0_2)) = some (r1, r2, r3) := h
 clear h; simp only [Option.some.injEq, Prod.mk.injEq] at H; obtain ⟨rfl, rfl, rfl⟩ := H; go_enter Try.func52, Try.ntmps52
 go_wp2_with (first | ((with_reducible refine gate_dst (N := 1) rfl ?_); refine box_event ?hg (N := 1) ?hd (cs := #[.int .i64 a0_0, .int .i64 a0_1, .int .i64 a0_2]) (t := 80) ?hr ?_; (case hd => rfl); (case hg => rfl); (case hr => first | (go_simp; done) | (go_simp; rfl)); intro gb134 hg w2 hbox hb; have n_ := an (below_step (by exact bel0) hb) (an (hbox) (an ((by rw [hg]; exact (below_size (by exact bel0)) : w.heap.size ≤ gb134)) (an ((by rw [hg]; exact (below_size (by exact bel0)) : w.heap.size ≤ gb134)) (trivial)))); clear HB; obtain ⟨HB, BK134, GW134, GE134, -⟩ := n_; clear hb hbox hg) | ((with_reducible refine gate_dst (N := 2) rfl ?_); refine box_event ?hg (N := 2) ?hd (cs := #[.int .i64 0, .int .i64 0, .int .i64 0]) (t := 82) ?hr ?_; (case hd => rfl); (case hg => rfl); (case hr => first | (go_simp; done) | (go_simp; rfl)); intro gb135 hg w3 hbox hb; have n_ := an (blk_below (blk_nw BK134.out) hb) (an (below_step (by exact bel0) hb) (an (hbox) (an ((by rw [hg]; exact (below_size (by exact bel0)) : w.heap.size ≤ gb135)) (an ((by rw [hg]; exact (below_size (by exact bel0)) : w.heap.size ≤ gb135)) (an ((by rw [hg]; exact Nat.ne_of_lt (blk_lt (blk_nw BK134.out)) : gb134 ≠ gb135)) (an ((by rw [hg]; exact Nat.ne_of_gt (blk_lt (blk_nw BK134.out)) : gb135 ≠ gb134)) (trivial))))))); clear BK134 HB; obtain ⟨BK134, HB, BK135, GW135, GE135, NB134_135, NB135_134, -⟩ := n_; clear hb hbox hg) | ((with_reducible refine gate_dst (N := 3) rfl ?_); refine box_event ?hg (N := 3) ?hd (cs := #[.int .i64 0, .int .i64 0, .int .i64 0]) (t := 82) ?hr ?_; (case hd => rfl); (case hg => rfl); (case hr => first | (go_simp; done) | (go_simp; rfl)); intro gb136 hg w4 hbox hb; have n_ := an (blk_below (blk_nw BK134.out) hb) (an (blk_below (blk_nw BK135.out) hb) (an (below_step (by exact bel0) hb) (an (hbox) (an ((by rw [hg]; exact (below_size (by exact bel0)) : w.heap.size ≤ gb136)) (an ((by rw [hg]; exact (below_size (by exact bel0)) : w.heap.size ≤ gb136)) (an ((by rw [hg]; exact Nat.ne_of_lt (blk_lt (blk_nw BK134.out)) : gb134 ≠ gb136)) (an ((by rw [hg]; exact Nat.ne_of_gt (blk_lt (blk_nw BK134.out)) : gb136 ≠ gb134)) (an ((by rw [hg]; exact Nat.ne_of_lt (blk_lt (blk_nw BK135.out)) : gb135 ≠ gb136)) (an ((by rw [hg]; exact Nat.ne_of_gt (blk_lt (blk_nw BK135.out)) : gb136 ≠ gb135)) (trivial)))))))))); clear BK134 BK135 HB; obtain ⟨BK134, BK135, HB, BK136, GW136, GE136, NB134_136, NB136_134, NB135_136, NB136_135, -⟩ := n_; clear hb hbox hg; have hnb5 := NB134_135.out; have hnc5 := NB135_134.out; have hnb6 := NB134_136.out; have hnc6 := NB136_134.out; obtain ⟨hcz7_0, hcz7_1, hcz7_2⟩ := blkz3 BK134.out; have hfz7_0 := blkf BK134.out; have hnb8 := NB136_135.out; have hnc8 := NB135_136.out; obtain ⟨hcz9_0, hcz9_1, hcz9_2⟩ := blkz3 BK136.out; have hfz9_0 := blkf BK136.out; obtain ⟨hcz10_0, hcz10_1, hcz10_2⟩ := blkz3 BK135.out; have hfz10_0 := blkf BK135.out))
 refine bodyPost_ret (results_cell_row rfl _ _ gb135 82 #[.int .i64 a0_0, .int .i64 a0_1, .int .i64 a0_2] (0, 0) _ rfl (by (with_reducible repeat (first | refine blk_drewN ?_ _ | refine blk_drew ?_ | refine blk_alloc ?_ _)); refine blk_put (cs := #[.int .i64 a0_0, .int .i64 a0_1, .int .i64 0]) ?_ 2 _ rfl; (with_reducible repeat (first | refine blk_drewN ?_ _ | refine blk_drew ?_ | refine blk_alloc ?_ _)); refine blk_put (cs := #[.int .i64 a0_0, .int .i64 0, .int .i64 0]) ?_ 1 _ rfl; (with_reducible repeat (first | refine blk_drewN ?_ _ | refine blk_drew ?_ | refine blk_alloc ?_ _)); refine blk_put (cs := #[.int .i64 0, .int .i64 0, .int .i64 0]) ?_ 0 _ rfl; (with_reducible repeat (first | refine blk_drewN ?_ _ | refine blk_drew ?_ | refine blk_alloc ?_ _)); refine blk_far ?_ NB135_136.out _; (with_reducible repeat (first | refine blk_drewN ?_ _ | refine blk_drew ?_ | refine blk_alloc ?_ _)); refine blk_far ?_ NB135_136.out _; (with_reducible repeat (first | refine blk_drewN ?_ _ | refine blk_drew ?_ | refine blk_alloc ?_ _)); refine blk_far ?_ NB135_136.out _; (with_reducible repeat (first | refine blk_drewN ?_ _ | refine blk_drew ?_ | refine blk_alloc ?_ _)); exact BK135.out) Try.underlying82 rfl (by kernel_rfl)) rfl ?_
 exact ⟨by first | rfl | (simp [errW_none, errW_some] <;> rfl) | (simp [*, errW_none, errW_some] <;> rfl), by exact bel0⟩

/-! ### laws_toMemberS: function 80 -/
def laws_toMemberS.l0 : Nat → List (S80) → List (S82) → Int → Option ((List (S82)))
  | 0, _, _, _ => none
  | k + 1, x0, x3, x4 => if x4 < (x0.length : Int) then (if 0 ≤ x4 then ((laws_toMember.f ((rd_T80 x0 x4).f0) ((rd_T80 x0 x4).f1) ((rd_T80 x0 x4).f2)).bind fun bt141 => (if x4 < (x3.length : Int) then (laws_toMemberS.l0 k x0 (x3.set (x4 : Int).toNat (⟨bt141.1, bt141.2.1, bt141.2.2⟩ : S82)) (wrap64 (x4 + 1))) else (none))) else (none)) else (some x3)
def laws_toMemberS.f (k : Nat) (l0 : List (S80)) : Option ((List (S82))) := if 0 ≤ (l0.length : Int) then (if ((l0.length : Int) : Int).toNat ≤ 11728124029610 then (laws_toMemberS.l0 k l0 (List.replicate ((l0.length : Int) : Int).toNat z82) 0) else (none)) else (none)
theorem laws_toMemberS.mono_l : ∀ k, (∀ y0 y1 y2, LeO (laws_toMemberS.l0 k y0 y1 y2) (laws_toMemberS.l0 (k + 1) y0 y1 y2))
 | 0 => fun _ _ _ r h => by simp [laws_toMemberS.l0] at h
 | k + 1 => by
  have ih0 := laws_toMemberS.mono_l k
  ·intro y0 y1 y2
   unfold laws_toMemberS.l0
   repeat' first
   | (with_reducible exact ih0 _ _ _)
   | (with_reducible exact LeO.refl _)
   | (with_reducible exact LeO.none _)
   | (with_reducible refine LeO.ite ?_ ?_)
   | (with_reducible refine LeO.bind ?_ (fun _ => ?_))
   | exact ih0 _ _ _
   | exact LeO.none _
   | refine LeO.ite ?_ ?_
   | refine LeO.bind ?_ (fun _ => ?_)
theorem laws_toMemberS.mono : ∀ a0 k, LeO (laws_toMemberS.f k a0) (laws_toMemberS.f (k + 1) a0) := by
 intro a0 k
 have ih0 := laws_toMemberS.mono_l k
 unfold laws_toMemberS.f
 repeat' first
   | (with_reducible exact ih0 _ _ _)
   | (with_reducible exact LeO.refl _)
   | (with_reducible exact LeO.none _)
   | (with_reducible refine LeO.ite ?_ ?_)
   | (with_reducible refine LeO.bind ?_ (fun _ => ?_))
   | exact ih0 _ _ _
   | exact LeO.none _
   | refine LeO.ite ?_ ?_
   | refine LeO.bind ?_ (fun _ => ?_)
set_option maxHeartbeats 8000000 in
set_option maxRecDepth 100000 in
theorem laws_toMemberS.calls (k : Nat) (A0 : Option Addr) (c0 : Nat) (l0 : List (S80)) (r : List (S82)) (w : World) (hr0 : Kd.C k80 w A0 l0.length l0) (hc0 : l0.length ≤ c0) (h : laws_toMemberS.f k l0 = some r) :
  Calls Try.prog 80 #[.slice A0 l0.length c0] w fun e w' => ∃ v0_ : Value, e = .returned (v0_) ∧ Kd.R k82 82 w' w.heap.size (fun _ => True) v0_ r ∧ Below w.heap.size w w' := by
 have hu80 := Try.underlying80
 have hu82 := Try.underlying82
 have HR0 := Aside0.mk hr0; have HC0 := Aside0.mk hc0; clear hr0 hc0
 have HB := Aside0.mk (Below.refl w.heap.size w)
 have H : (if 0 ≤ (l0.length : Int) then (if ((l0.length : Int) : Int).toNat ≤ 11728124029610 then (laws_toMemberS.l0 k l0 (List.replicate ((l0.length : Int) : Int).toNat z82) 0) else (none)) else (none)) = some r := h
 clear h
 by_cases c2 : 0 ≤ (l0.length : Int)
 ·rw [if_pos c2] at H
  have c2b0 := eq_true c2
  have c2b1 : decide (0 ≤ (l0.length : Int)) = true := decide_eq_true c2
  clear c2
  by_cases c3 : ((l0.length : Int) : Int).toNat ≤ 11728124029610
  ·rw [if_pos c3] at H
   have c3b0 := eq_true c3
   have c3b1 : decide (((l0.length : Int) : Int).toNat ≤ 11728124029610) = true := decide_eq_true c3
   clear c3
   obtain ⟨y137, hy137⟩ : ∃ y_ : List (S82), y_ = (List.replicate ((l0.length : Int) : Int).toNat z82) := ⟨_, rfl⟩
   replace H : (laws_toMemberS.l0 k l0 y137 0) = some r := by first | (rw [hy137]; with_reducible exact H) | (have H2_ := (Option.bind_some _ _).symm.trans H; rw [hy137]; with_reducible exact H2_) | (have H2_ := (Option.bind_some _ _).symm.trans H; with_reducible exact H2_) | with_reducible exact H | (rw [hy137]; exact H) | exact H
   have Ny137 := Aside0.mk hy137; clear hy137
   have H' := Aside0.mk H
   clear H; go_enter Try.func80, Try.ntmps80
   go_wp2_with (first | ((with_reducible refine gate_dst (N := 7) rfl ?_); refine Kd.R_make k82 _ 82 rfl (N := 7) rfl 39 _ _ rfl (l0.length : Int) rfl rfl Try.underlying39 (.agg #[(.int .i64 0), (.int .i64 0), (.int .i64 0)]) 24 info82 rfl (by decide) (by omega) z82 (ok := fun _ => True) (okp := fun _ => True) (k82_mkM _ _ _ z82 ) (fun _ hk => hk) trivial (of_decide_eq_true (by first | (with_reducible assumption) | assumption)) (Nat.le_trans (Nat.mul_le_mul_right _ (of_decide_eq_true (by first | (with_reducible assumption) | assumption) : (l0.length : Int).toNat ≤ 11728124029610)) (by omega)) (Below.refl _ _) (Nat.le_refl _) ?_; intro v138 w4 ho5 hb hg_ hnew_; clear hg_ hnew_; (first | rw [← Ny137.out] at ho5 | (simp only [Int.reduceToNat] at ho5; rw [← Ny137.out] at ho5)); have n_ := an (Kd.R_lower ho5 (below_size (by exact bel0))) (an (below_step (by exact bel0) hb) (trivial)); clear HB; obtain ⟨HO139, HB, -⟩ := n_; clear hb ho5))
   go_loopg [4] k (fun kq v4 w' => ∃ (x3_1 : List (S82)) (x4_1 : Int), v4 = .int .i64 x4_1 ∧ Aside0 (laws_toMemberS.l0 kq l0 x3_1 x4_1 = some r) ∧ Aside0 (kq ≤ k) ∧ Aside0 (Kd.R k82 82 w' w.heap.size (fun _ => True) v138 x3_1) ∧ Aside0 (Below w.heap.size w w'))
   case atStart => exact ⟨(y137), (0), (by first | rfl | (simp; done) | (simp [*]; done)), H', ⟨Nat.le_refl _⟩, ⟨by exact Kd.R_nw HO139.out⟩, ⟨by exact bel0⟩⟩
   case round =>
    clear H'
    try clear c2; try clear c2b0; try clear c2b1; try clear p2; try clear c3; try clear c3b0; try clear c3b1
    obtain ⟨x3_1, x4_1, rfl, HA, HK1, HO_3, HB⟩ := hrel
    cases gk with
    | zero => exact absurd HA.out (by simp [laws_toMemberS.l0])
    | succ k1 =>
     have H := HA.out; clear HA
     simp only [laws_toMemberS.l0] at H
     by_cases c6 : x4_1 < (l0.length : Int)
     ·rw [if_pos c6] at H
      have c6b0 : decide (x4_1 < (l0.length : Int)) = true := decide_eq_true c6
      clear c6; (try simp only [c6b0])
      by_cases c7 : 0 ≤ x4_1
      ·rw [if_pos c7] at H; have c7b0 : decide (0 ≤ x4_1) = true := decide_eq_true c7; clear c7; (try simp only [c7b0]); replace H := Option.bind_eq_some_iff.mp H
       obtain ⟨⟨t141, t142, t143⟩, A80, H⟩ := H
       replace H : (if x4_1 < (x3_1.length : Int) then (laws_toMemberS.l0 k1 l0 (x3_1.set (x4_1 : Int).toNat (⟨t141, t142, t143⟩ : S82)) (wrap64 (x4_1 + 1))) else (none)) = some r := H
       have A8 := Aside0.mk A80; clear A80
       have p140 : 0 ≤ (x4_1 : Int) := of_decide_eq_true (by first | (with_reducible assumption) | assumption)
       have q140 : x4_1 < (l0.length : Int) := of_decide_eq_true (by first | (with_reducible assumption) | assumption)
       obtain ⟨ad140, e140, hx140_0, hx140_1, hx140_2⟩ := at_T80 HR0.out x4_1 p140 q140
       cases e140
       replace hx140_0 := (HB.out.cell (World.block_lt_of_cell? w _ hx140_0)).trans hx140_0
       replace hx140_1 := (HB.out.cell (World.block_lt_of_cell? w _ hx140_1)).trans hx140_1
       replace hx140_2 := (HB.out.cell (World.block_lt_of_cell? w _ hx140_2)).trans hx140_2
       replace p140 := eq_true p140
       replace q140 := eq_true q140
       replace H := Aside0.mk H
       go_wp2_with (first | ((with_reducible refine gate_callee (f := 52) rfl ?_); refine goesL_ (some 20) rfl rfl Try.func52 (by kernel_rfl) rfl #[.agg #[.int .i64 ((rd_T80 l0 x4_1).f0), .int .i64 ((rd_T80 l0 x4_1).f1), .int .i64 ((rd_T80 l0 x4_1).f2)]] rfl (by (try simp only [List.map_toArray, List.map_cons, List.map_nil]); first | done | rfl | (simp only [List.length_drop, List.length_take]; rfl)) ?_; (with_reducible refine (laws_toMember.calls ((rd_T80 l0 x4_1).f0) ((rd_T80 l0 x4_1).f1) ((rd_T80 l0 x4_1).f2) t141 t142 t143 _ A8.out).mono ?_); rintro e w9 ⟨rfl, hb⟩; refine ⟨_, rfl, ?_⟩; have n_ := an (Kd.R_below (by exact Kd.R_nw HO_3.out) hb) (an (below_step (by exact bel0) hb) (trivial)); clear HO_3 HB; obtain ⟨HO_3, HB, -⟩ := n_; (try clear hb); (try clear hb2); (try clear hk); (try clear hi); refine Stop.out ?_))
       refine Stop.mk ?_
       replace H := H.out
       by_cases c10 : x4_1 < (x3_1.length : Int)
       ·rw [if_pos c10] at H
        have c10b0 : decide (x4_1 < (x3_1.length : Int)) = true := decide_eq_true c10
        clear c10; (try simp only [c10b0])
        obtain ⟨y144, hy144⟩ : ∃ y_ : List (S82), y_ = (x3_1.set (x4_1 : Int).toNat (⟨t141, t142, t143⟩ : S82)) := ⟨_, rfl⟩
        replace H : (laws_toMemberS.l0 k1 l0 y144 (wrap64 (x4_1 + 1))) = some r := by first | (rw [hy144]; with_reducible exact H) | (have H2_ := (Option.bind_some _ _).symm.trans H; rw [hy144]; with_reducible exact H2_) | (have H2_ := (Option.bind_some _ _).symm.trans H; with_reducible exact H2_) | with_reducible exact H | (rw [hy144]; exact H) | exact H
        have Ny144 := Aside0.mk hy144; clear hy144
        have H' := Aside0.mk H
        clear H
        have p11 : 0 ≤ (x4_1 : Int) := of_decide_eq_true (by first | (with_reducible assumption) | assumption)
        have q11 : (x4_1 : Int) < ((x3_1.length : Int) : Int) := of_decide_eq_true (by first | (with_reducible assumption) | assumption)
        obtain ⟨go11, co11, eo11, gb11, gl11, cl11, HG11⟩ := Kd.R_form HO_3.out (by omega)
        (first | cases eo11 | (injection eo11 with ea_ en_ ec_; (first | subst ea_ | (injection ea_ with ea_; subst ea_)); subst ec_; clear en_))
        have GB11 := Aside0.mk gb11; have GG11 := Aside0.mk HG11; clear gb11 gl11 HG11
        obtain ⟨ce11, hcl11, hM11, hcc11, hfr11⟩ := Kd.R_elem HO_3.out z82 (x4_1 : Int) p11 q11
        obtain rfl := k82_openM hM11
        have hx11_0 : w9.cell? ⟨go11, (x4_1 : Int).toNat * 3, none⟩ = some (.int .i64 ((rd_T82 x3_1 x4_1).f0)) := hcc11 0 _ rfl
        have hx11_1 : w9.cell? ⟨go11, (x4_1 : Int).toNat * 3 + 1, none⟩ = some (.int .i64 ((rd_T82 x3_1 x4_1).f1)) := hcc11 1 _ rfl
        have hx11_2 : w9.cell? ⟨go11, (x4_1 : Int).toNat * 3 + 2, none⟩ = some (.int .i64 ((rd_T82 x3_1 x4_1).f2)) := hcc11 2 _ rfl
        have hf11_0 : w9.frozen? ⟨go11, (x4_1 : Int).toNat * 3, none⟩ = false := hfr11 0
        have hf11_1 : w9.frozen? ⟨go11, (x4_1 : Int).toNat * 3 + 1, none⟩ = false := hfr11 1
        have hf11_2 : w9.frozen? ⟨go11, (x4_1 : Int).toNat * 3 + 2, none⟩ = false := hfr11 2
        clear hcl11 hcc11 hfr11 hM11
        replace p11 := eq_true p11
        replace q11 := eq_true q11
        have HX12 := Aside0.mk (show Kd.R k82 82 w9 w.heap.size (fun _ => True) (.slice (some ⟨go11, 0, none⟩) x3_1.length co11) x3_1 from (by exact Kd.R_nw HO_3.out))
        obtain ⟨ce12, hcl12, hM12, hcc12, hfr12⟩ := Kd.R_elem HX12.out z82 (x4_1 : Int) (of_decide_eq_true (by first | (with_reducible assumption) | assumption)) (by have h_ : (x4_1 : Int) < ((x3_1.length : Int) : Int) := of_decide_eq_true (by first | (with_reducible assumption) | assumption); first | exact h_ | (have e_ := (Kd.R_reads' HO_3.out).1; omega) | simpa using h_)
        obtain rfl := k82_openM hM12
        have HP12 := Kd.R_seg HX12.out (x4_1 : Int) (of_decide_eq_true (by first | (with_reducible assumption) | assumption)) (by have h_ : (x4_1 : Int) < ((x3_1.length : Int) : Int) := of_decide_eq_true (by first | (with_reducible assumption) | assumption); first | exact h_ | (have e_ := (Kd.R_reads' HO_3.out).1; omega) | simpa using h_) (seg := [.int .i64 t141, .int .i64 t142, .int .i64 t143]) (j := 0) hcl12 hcc12 (show 3 ≤ 3 from by decide) (x' := (⟨t141, t142, t143⟩ : S82)) (k82_mkM _ _ _ (⟨t141, t142, t143⟩ : S82) ) (fun _ hk => hk)
        have hx12_0 := hcc12 0 _ rfl
        (try simp only [show (k82).sz = 3 from rfl, Nat.mul_one, Nat.add_zero] at hx12_0)
        have hf12_0 := hfr12 0
        (try simp only [show (k82).sz = 3 from rfl, Nat.mul_one, Nat.add_zero] at hf12_0)
        have hx12_1 := hcc12 1 _ rfl
        (try simp only [show (k82).sz = 3 from rfl, Nat.mul_one, Nat.add_zero] at hx12_1)
        have hf12_1 := hfr12 1
        (try simp only [show (k82).sz = 3 from rfl, Nat.mul_one, Nat.add_zero] at hf12_1)
        have hx12_2 := hcc12 2 _ rfl
        (try simp only [show (k82).sz = 3 from rfl, Nat.mul_one, Nat.add_zero] at hx12_2)
        have hf12_2 := hfr12 2
        (try simp only [show (k82).sz = 3 from rfl, Nat.mul_one, Nat.add_zero] at hf12_2)
        clear hcl12 hcc12 hfr12 hM12
        go_wp2_with (first | ((with_reducible refine gate_store (t := 82) (p := 21) rfl ?_); refine store_event (t := 82) (p := 21) (v := ?vo_w13) (w1 := (((w9.setCell ⟨go11, (x4_1 : Int).toNat * 3, none⟩ (.int .i64 t141)).setCell ⟨go11, (x4_1 : Int).toNat * 3 + 1, none⟩ (.int .i64 t142)).setCell ⟨go11, (x4_1 : Int).toNat * 3 + 2, none⟩ (.int .i64 t143))) ?hg ?ho ?hn ?hr ?_; (case ho => rfl); (case hg => rfl); (case hn => rfl); (case hr => first | (go_simp; done) | (go_simp; rfl)); intro w13 hw; have hg : w9.grownBy w13 (some go11) := (by rw [hw]; exact HP12.2); have hp_ : Kd.R k82 82 w13 w.heap.size (fun _ => True) (.slice (some ⟨go11, 0, none⟩) x3_1.length co11) y144 := (by rw [hw, Ny144.out]; exact HP12.1); clear HP12; have n_ := an (hp_) (an ((by rw [hw]; exact below_set (below_set (below_set (HB.out) GB11.out) GB11.out) GB11.out : Below w.heap.size w w13)) (trivial)); clear HO_3 HB; obtain ⟨HO_3, HB, -⟩ := n_; clear hg hw hp_))
        go_roundg k1
        case measure => have := HK1.out; omega
        case rel => exact ⟨(y144), (wrap64 (x4_1 + 1)), (by first | rfl | (simp; done) | (simp [*]; done)), H', ⟨by have := HK1.out; omega⟩, ⟨by exact Kd.R_nw HO_3.out⟩, ⟨by exact bel0⟩⟩
       ·rw [if_neg c10] at H
        exact absurd H (by simp)
      ·rw [if_neg c7] at H
       exact absurd H (by simp)
     ·rw [if_neg c6] at H
      have c6b0 : decide (x4_1 < (l0.length : Int)) = false := decide_eq_false c6
      clear c6; (try simp only [c6b0])
      obtain rfl := Option.some.inj H
      go_wp2
      go_ret
      exact ⟨_, by first | rfl | (simp [errW_none, errW_some] <;> rfl) | (simp [*, errW_none, errW_some] <;> rfl), by exact Kd.R_nw HO_3.out, by exact bel0⟩
  ·rw [if_neg c3] at H
   exact absurd H (by simp)
 ·rw [if_neg c2] at H
  exact absurd H (by simp)

/-! ### laws_toTable: function 25 -/
def laws_toTable.f (k : Nat) (a0_0 : Int) (l0_1 : List (S80)) : Option (Int × (List (S82))) := (laws_toMemberS.f k l0_1).bind fun t148 => (some (a0_0, t148))
theorem laws_toTable.mono : ∀ a0 a1 k, LeO (laws_toTable.f k a0 a1) (laws_toTable.f (k + 1) a0 a1) := by
 intro a0 a1 k
 unfold laws_toTable.f
 repeat' first
   | (with_reducible exact laws_toMemberS.mono _ _)
   | (with_reducible exact LeO.refl _)
   | (with_reducible exact LeO.none _)
   | (with_reducible refine LeO.ite ?_ ?_)
   | (with_reducible refine LeO.bind ?_ (fun _ => ?_))
   | exact laws_toMemberS.mono _ _
   | exact LeO.none _
   | refine LeO.ite ?_ ?_
   | refine LeO.bind ?_ (fun _ => ?_)
set_option maxHeartbeats 8000000 in
set_option maxRecDepth 100000 in
theorem laws_toTable.calls (k : Nat) (a0_0 : Int) (A0_1 : Option Addr) (c0_1 : Nat) (l0_1 : List (S80)) (r1 : Int) (r2 : List (S82)) (w : World) (hr0_1 : Kd.C k80 w A0_1 l0_1.length l0_1) (hc0_1 : l0_1.length ≤ c0_1) (h : laws_toTable.f k a0_0 l0_1 = some (r1, r2)) :
  Calls Try.prog 25 #[.agg #[.int .i64 a0_0, .slice A0_1 l0_1.length c0_1]] w fun e w' => ∃ v1_ : Value, e = .returned (.agg #[.int .i64 r1, v1_]) ∧ Kd.R k82 82 w' w.heap.size (fun _ => True) v1_ r2 ∧ Below w.heap.size w w' := by
 have hu37 := Try.underlying37
 have hu41 := Try.underlying41
 have HR0_1 := Aside0.mk hr0_1; have HC0_1 := Aside0.mk hc0_1; clear hr0_1 hc0_1
 have HB := Aside0.mk (Below.refl w.heap.size w)
 have H : ((laws_toMemberS.f k l0_1).bind fun t148 => (some (a0_0, t148))) = some (r1, r2) := h
 clear h; replace H := Option.bind_eq_some_iff.mp H; obtain ⟨t148, A20, H⟩ := H; have A2 := Aside0.mk A20; clear A20; simp only [Option.some.injEq, Prod.mk.injEq] at H; obtain ⟨rfl, rfl⟩ := H; go_enter Try.func25, Try.ntmps25
 go_wp2_with (first | ((with_reducible refine gate_dst (N := 1) rfl ?_); refine box_event ?hg (N := 1) ?hd (cs := #[.int .i64 a0_0, .slice A0_1 l0_1.length c0_1]) (t := 37) ?hr ?_; (case hd => rfl); (case hg => rfl); (case hr => first | (go_simp; done) | (go_simp; rfl)); intro gb145 hg w3 hbox hb; have n_ := an (below_step (by exact bel0) hb) (an (hbox) (an ((by rw [hg]; exact (below_size (by exact bel0)) : w.heap.size ≤ gb145)) (an ((by rw [hg]; exact (below_size (by exact bel0)) : w.heap.size ≤ gb145)) (trivial)))); clear HB; obtain ⟨HB, BK145, GW145, GE145, -⟩ := n_; clear hb hbox hg) | ((with_reducible refine gate_dst (N := 2) rfl ?_); refine box_event ?hg (N := 2) ?hd (cs := #[.int .i64 0, .slice none 0 0]) (t := 41) ?hr ?_; (case hd => rfl); (case hg => rfl); (case hr => first | (go_simp; done) | (go_simp; rfl)); intro gb146 hg w4 hbox hb; have n_ := an (blk_below (blk_nw BK145.out) hb) (an (below_step (by exact bel0) hb) (an (hbox) (an ((by rw [hg]; exact (below_size (by exact bel0)) : w.heap.size ≤ gb146)) (an ((by rw [hg]; exact (below_size (by exact bel0)) : w.heap.size ≤ gb146)) (an ((by rw [hg]; exact Nat.ne_of_lt (blk_lt (blk_nw BK145.out)) : gb145 ≠ gb146)) (an ((by rw [hg]; exact Nat.ne_of_gt (blk_lt (blk_nw BK145.out)) : gb146 ≠ gb145)) (trivial))))))); clear BK145 HB; obtain ⟨BK145, HB, BK146, GW146, GE146, NB145_146, NB146_145, -⟩ := n_; clear hb hbox hg) | ((with_reducible refine gate_dst (N := 3) rfl ?_); refine box_event ?hg (N := 3) ?hd (cs := #[.int .i64 0, .slice none 0 0]) (t := 41) ?hr ?_; (case hd => rfl); (case hg => rfl); (case hr => first | (go_simp; done) | (go_simp; rfl)); intro gb147 hg w5 hbox hb; have n_ := an (blk_below (blk_nw BK145.out) hb) (an (blk_below (blk_nw BK146.out) hb) (an (below_step (by exact bel0) hb) (an (hbox) (an ((by rw [hg]; exact (below_size (by exact bel0)) : w.heap.size ≤ gb147)) (an ((by rw [hg]; exact (below_size (by exact bel0)) : w.heap.size ≤ gb147)) (an ((by rw [hg]; exact Nat.ne_of_lt (blk_lt (blk_nw BK145.out)) : gb145 ≠ gb147)) (an ((by rw [hg]; exact Nat.ne_of_gt (blk_lt (blk_nw BK145.out)) : gb147 ≠ gb145)) (an ((by rw [hg]; exact Nat.ne_of_lt (blk_lt (blk_nw BK146.out)) : gb146 ≠ gb147)) (an ((by rw [hg]; exact Nat.ne_of_gt (blk_lt (blk_nw BK146.out)) : gb147 ≠ gb146)) (trivial)))))))))); clear BK145 BK146 HB; obtain ⟨BK145, BK146, HB, BK147, GW147, GE147, NB145_147, NB147_145, NB146_147, NB147_146, -⟩ := n_; clear hb hbox hg; have hnb6 := NB145_146.out; have hnc6 := NB146_145.out; have hnb7 := NB145_147.out; have hnc7 := NB147_145.out; obtain ⟨hcz8_0, hcz8_1⟩ := blkz2 BK145.out; have hfz8_0 := blkf BK145.out; have hnb9 := NB147_146.out; have hnc9 := NB146_147.out; obtain ⟨hcz10_0, hcz10_1⟩ := blkz2 BK147.out; have hfz10_0 := blkf BK147.out) | ((with_reducible refine gate_callee (f := 80) rfl ?_); refine goesL_ (some 9) rfl rfl Try.func80 (by kernel_rfl) rfl #[.slice A0_1 l0_1.length c0_1] rfl (by (try simp only [List.map_toArray, List.map_cons, List.map_nil]); first | done | rfl | (simp only [List.length_drop, List.length_take]; rfl)) ?_; (with_reducible refine (laws_toMemberS.calls k _ _ l0_1 t148 _ ?side1 ?side2 A2.out).mono ?_); (case side1 => exact Kd.C_below HR0_1.out (by exact bel0)); (case side2 => exact HC0_1.out); rintro e w11 ⟨v149, rfl, ho0, hb⟩; refine ⟨_, rfl, ?_⟩; have n_ := an (Kd.R_lower ho0 (below_size (by exact bel0))) (an (blk_below (blk_kb BK145.out NB145_147.out) hb) (an (blk_below (blk_kb BK146.out NB146_147.out) hb) (an (blk_below (g := gb147) (o := .cells #[.int .i64 a0_0, .slice none 0 0] 41 (0, 0)) (by (with_reducible repeat (first | refine blk_drewN ?_ _ | refine blk_drew ?_ | refine blk_alloc ?_ _)); refine blk_put (cs := #[.int .i64 0, .slice none 0 0]) ?_ 0 _ rfl; (with_reducible repeat (first | refine blk_drewN ?_ _ | refine blk_drew ?_ | refine blk_alloc ?_ _)); exact BK147.out) hb) (an (below_step (by exact bel0) hb) (trivial))))); clear BK145 BK146 BK147 HB; obtain ⟨HO150, BK145, BK146, BK147, HB, -⟩ := n_; (try clear hb); (try clear hb2); (try clear hk); (try clear hi); (try clear ho0); obtain ⟨Ao12, co12, eo12⟩ := Kd.R_slice HO150.out; subst eo12; obtain ⟨hcz13_0, hcz13_1⟩ := blkz2 BK147.out; have hfz13_0 := blkf BK147.out; obtain ⟨hcz14_0, hcz14_1⟩ := blkz2 BK146.out; have hfz14_0 := blkf BK146.out))
 refine bodyPost_ret (results_cell_row rfl _ _ gb146 41 #[.int .i64 a0_0, .slice Ao12 t148.length co12] (0, 0) _ rfl (by (with_reducible repeat (first | refine blk_drewN ?_ _ | refine blk_drew ?_ | refine blk_alloc ?_ _)); refine blk_put (cs := #[.int .i64 a0_0, .slice none 0 0]) ?_ 1 _ rfl; (with_reducible repeat (first | refine blk_drewN ?_ _ | refine blk_drew ?_ | refine blk_alloc ?_ _)); refine blk_put (cs := #[.int .i64 0, .slice none 0 0]) ?_ 0 _ rfl; (with_reducible repeat (first | refine blk_drewN ?_ _ | refine blk_drew ?_ | refine blk_alloc ?_ _)); refine blk_far ?_ NB146_147.out _; (with_reducible repeat (first | refine blk_drewN ?_ _ | refine blk_drew ?_ | refine blk_alloc ?_ _)); exact BK146.out) Try.underlying41 rfl (by kernel_rfl)) rfl ?_
 exact ⟨_, by first | rfl | (simp [errW_none, errW_some] <;> rfl) | (simp [*, errW_none, errW_some] <;> rfl), by (with_reducible repeat (first | apply Kd.R_alloc | apply Kd.R_drewN | apply Kd.R_drew)); exact Kd.R_mono (Kd.R_far (p := ⟨gb146, 1, none⟩) (Kd.R_far (p := ⟨gb146, 0, none⟩) (Kd.R_far (p := ⟨gb147, 1, none⟩) (Kd.R_types (Kd.R_types HO150.out BK147.out (by decide)) BK146.out (by decide)) (fun _ hk => hk.1.2) (.slice Ao12 t148.length co12)) (fun _ hk => hk.2) (.int .i64 a0_0)) (fun _ hk => hk.2) (.slice Ao12 t148.length co12)) (fun _ hk => trivial), by exact bel0⟩

/-! ### impl_within: function 72 -/
def impl_within.f (a0 : Int) (a1 : Int) (a2 : Int) : Option (Bool) := if a1 ≤ a0 then (some (decide (a0 ≤ a2))) else (some false)
set_option maxHeartbeats 8000000 in
set_option maxRecDepth 100000 in
theorem impl_within.calls (a0 : Int) (a1 : Int) (a2 : Int) (r : Bool) (w : World) (h : impl_within.f a0 a1 a2 = some r) :
  Calls Try.prog 72 #[.int .i64 a0, .int .i64 a1, .int .i64 a2] w fun e w' => e = .returned (.bool r) ∧ Drawn0 w w' := by
 have H : (if a1 ≤ a0 then (some (decide (a0 ≤ a2))) else (some false)) = some r := h
 clear h
 by_cases c4 : a1 ≤ a0
 ·rw [if_pos c4] at H; have c4b0 : decide (a1 ≤ a0) = true := decide_eq_true c4; clear c4; (try simp only [c4b0])
  obtain rfl := Option.some.inj H
  go_enter Try.func72, Try.ntmps72
  go_wp2
  go_ret
  exact ⟨by first | rfl | (simp; done) | (simp [*]; done), by repeat (first | exact Drawn0.refl _ | apply Drawn0.step)⟩
 ·rw [if_neg c4] at H; have c4b0 : decide (a1 ≤ a0) = false := decide_eq_false c4; clear c4; (try simp only [c4b0])
  obtain rfl := Option.some.inj H
  go_enter Try.func72, Try.ntmps72
  go_wp2
  go_ret
  exact ⟨by first | rfl | (simp; done) | (simp [*]; done), by repeat (first | exact Drawn0.refl _ | apply Drawn0.step)⟩

/-! ### impl_MemberOk: function 114 -/
def impl_MemberOk.f (a0_0 : Int) (a0_1 : Int) (a0_2 : Int) : Option (Bool) := (impl_within.f a0_0 0 11).bind fun t152 => (if t152 = true then ((impl_within.f a0_1 0 3).bind fun t153 => (if t153 = true then ((impl_within.f a0_2 0 1000).bind fun t154 => (some t154)) else (some false))) else (some false))
set_option maxHeartbeats 8000000 in
set_option maxRecDepth 100000 in
theorem impl_MemberOk.calls (a0_0 : Int) (a0_1 : Int) (a0_2 : Int) (r : Bool) (w : World) (h : impl_MemberOk.f a0_0 a0_1 a0_2 = some r) :
  Calls Try.prog 114 #[.agg #[.int .i64 a0_0, .int .i64 a0_1, .int .i64 a0_2]] w fun e w' => e = .returned (.bool r) ∧ Below w.heap.size w w' := by
 have hu82 := Try.underlying82
 have HB := Aside0.mk (Below.refl w.heap.size w)
 have H : ((impl_within.f a0_0 0 11).bind fun t152 => (if t152 = true then ((impl_within.f a0_1 0 3).bind fun t153 => (if t153 = true then ((impl_within.f a0_2 0 1000).bind fun t154 => (some t154)) else (some false))) else (some false))) = some r := h
 clear h; replace H := Option.bind_eq_some_iff.mp H; obtain ⟨t152, A20, H⟩ := H; have A2 := Aside0.mk A20; clear A20; go_enter Try.func114, Try.ntmps114
 replace H := Aside0.mk H
 go_wp2_with (first | ((with_reducible refine gate_dst (N := 1) rfl ?_); refine box_event ?hg (N := 1) ?hd (cs := #[.int .i64 a0_0, .int .i64 a0_1, .int .i64 a0_2]) (t := 82) ?hr ?_; (case hd => rfl); (case hg => rfl); (case hr => first | (go_simp; done) | (go_simp; rfl)); intro gb151 hg w3 hbox hb; have n_ := an (below_step (by exact bel0) hb) (an (hbox) (an ((by rw [hg]; exact (below_size (by exact bel0)) : w.heap.size ≤ gb151)) (an ((by rw [hg]; exact (below_size (by exact bel0)) : w.heap.size ≤ gb151)) (trivial)))); clear HB; obtain ⟨HB, BK151, GW151, GE151, -⟩ := n_; clear hb hbox hg; obtain ⟨hcz4_0, hcz4_1, hcz4_2⟩ := blkz3 BK151.out; have hfz4_0 := blkf BK151.out) | ((with_reducible refine gate_callee (f := 72) rfl ?_); refine goesL_ (some 5) rfl rfl Try.func72 (by kernel_rfl) rfl #[.int .i64 a0_0, .int .i64 0, .int .i64 11] rfl (by (try simp only [List.map_toArray, List.map_cons, List.map_nil]); first | done | rfl | (simp only [List.length_drop, List.length_take]; rfl)) ?_; (with_reducible refine (impl_within.calls a0_0 0 11 t152 _ A2.out).mono ?_); rintro e w' ⟨rfl, ⟨nd, rfl⟩⟩; refine ⟨_, rfl, ?_⟩; refine Stop.out ?_))
 refine Stop.mk ?_
 replace H := H.out
 by_cases c5 : t152 = true
 ·subst c5; rw [if_pos rfl] at H; replace H := Option.bind_eq_some_iff.mp H; obtain ⟨t153, A60, H⟩ := H; have A6 := Aside0.mk A60; clear A60; obtain ⟨hcz7_0, hcz7_1, hcz7_2⟩ := blkz3 BK151.out; have hfz7_0 := blkf BK151.out
  replace H := Aside0.mk H
  go_wp2_with (first | (go_at_call 72; (with_reducible refine (impl_within.calls a0_1 0 3 t153 _ A6.out).mono ?_); rintro e w' ⟨rfl, ⟨nd, rfl⟩⟩; refine Stop.out ?_))
  refine Stop.mk ?_
  replace H := H.out
  by_cases c8 : t153 = true
  ·subst c8; rw [if_pos rfl] at H; replace H := Option.bind_eq_some_iff.mp H; obtain ⟨t154, A90, H⟩ := H; have A9 := Aside0.mk A90; clear A90
   obtain rfl := Option.some.inj H
   obtain ⟨hcz10_0, hcz10_1, hcz10_2⟩ := blkz3 BK151.out; have hfz10_0 := blkf BK151.out
   go_wp2_with (first | (go_at_call 72; (with_reducible refine (impl_within.calls a0_2 0 1000 t154 _ A9.out).mono ?_); rintro e w' ⟨rfl, ⟨nd, rfl⟩⟩))
   go_ret
   exact ⟨by first | rfl | (simp [errW_none, errW_some] <;> rfl) | (simp [*, errW_none, errW_some] <;> rfl), by exact bel0⟩
  ·replace c8 := Bool.eq_false_iff.mpr c8
   subst c8
   rw [if_neg (show ¬ (false = true) by decide)] at H
   obtain rfl := Option.some.inj H
   go_wp2
   go_ret
   exact ⟨by first | rfl | (simp [errW_none, errW_some] <;> rfl) | (simp [*, errW_none, errW_some] <;> rfl), by exact bel0⟩
 ·replace c5 := Bool.eq_false_iff.mpr c5
  subst c5
  rw [if_neg (show ¬ (false = true) by decide)] at H
  obtain rfl := Option.some.inj H
  go_wp2
  go_ret
  exact ⟨by first | rfl | (simp [errW_none, errW_some] <;> rfl) | (simp [*, errW_none, errW_some] <;> rfl), by exact bel0⟩

-- NOT PRINTED: function 170 (impl_Member_int)

/-! ### impl_Table_member: function 133 -/
def impl_Table_member.cmpI (a b : Int) : Int := if a < b then -1 else if a > b then 1 else 0
theorem impl_Table_member.nan_calls (x : Int) (w : World) : Calls Try.prog 191 #[.int .i64 x] w fun e w' => e = .returned (.bool false) ∧ w' = w := by
 go_enter Try.func191, Try.ntmps191
 go_wp2
 go_ret
 exact ⟨by simp, rfl⟩
theorem impl_Table_member.cmp_calls (x y : Int) (w : World) : Calls Try.prog 172 #[.int .i64 x, .int .i64 y] w fun e w' => e = .returned (.int .i64 (impl_Table_member.cmpI x y)) ∧ w' = w := by
 go_enter Try.func172, Try.ntmps172
 by_cases h1 : x < y
 ·have d1 : decide (x < y) = true := decide_eq_true h1
  go_wp2_with (go_at_call 191; refine (impl_Table_member.nan_calls _ _).mono ?_; rintro e w' ⟨rfl, rfl⟩)
  go_ret
  exact ⟨by simp [impl_Table_member.cmpI, h1], rfl⟩
 ·have d1 : decide (x < y) = false := decide_eq_false h1
  by_cases h2 : y < x
  ·have d2 : decide (y < x) = true := decide_eq_true h2
   go_wp2_with (go_at_call 191; refine (impl_Table_member.nan_calls _ _).mono ?_; rintro e w' ⟨rfl, rfl⟩)
   go_ret
   exact ⟨by simp [impl_Table_member.cmpI, h1, h2], rfl⟩
  ·have d2 : decide (y < x) = false := decide_eq_false h2
   go_wp2_with (go_at_call 191; refine (impl_Table_member.nan_calls _ _).mono ?_; rintro e w' ⟨rfl, rfl⟩)
   go_ret
   refine ⟨?_, rfl⟩
   show Ending.returned (.int .i64 0) = .returned (.int .i64 (impl_Table_member.cmpI x y))
   unfold impl_Table_member.cmpI
   rw [if_neg (by omega), if_neg (by omega)]
theorem impl_Table_member.key_calls (a0 a1 a2 id : Int) (w : World) : Calls Try.prog 171 #[.agg #[.int .i64 a0, .int .i64 a1, .int .i64 a2], .int .i64 id] w fun e w' => e = .returned (.int .i64 (impl_Table_member.cmpI a0 id)) ∧ Below w.heap.size w w' := by
 have hu82 := Try.underlying82
 go_enter Try.func171, Try.ntmps171
 go_wp2_with (go_at_call 172; refine (impl_Table_member.cmp_calls _ _ _).mono ?_; rintro e w' ⟨rfl, rfl⟩)
 go_ret
 exact ⟨rfl, by repeat (first | (with_reducible exact Below.refl _ _) | (with_reducible apply below_alloc))⟩
def impl_Table_member.srchl0 : Nat → List S82 → Int → Nat → Nat → Option (Int × Bool)
  | 0, _, _, _, _ => none
  | k + 1, x, id, lo, hi => if lo < hi then (if impl_Table_member.cmpI (rd_T82 x (((lo : Int) + (hi : Int)) / 2)).f0 id < 0 then impl_Table_member.srchl0 k x id ((lo + hi) / 2 + 1) hi else impl_Table_member.srchl0 k x id lo ((lo + hi) / 2))
    else some ((lo : Int), decide (lo < x.length) && (impl_Table_member.cmpI (rd_T82 x (lo : Int)).f0 id == 0))
def impl_Table_member.srchf (k : Nat) (x : List S82) (id : Int) : Option (Int × Bool) := if x.length < 4611686018427387904 then impl_Table_member.srchl0 k x id 0 x.length else none
set_option maxHeartbeats 8000000 in
set_option maxRecDepth 100000 in
theorem impl_Table_member.srchcalls (k : Nat) (A0 : Option Addr) (c0 : Nat) (l0 : List S82) (id r1 : Int) (r2 : Bool) (w : World) (hr0 : Kd.C k82 w A0 l0.length l0) (hc0 : l0.length ≤ c0) (h : impl_Table_member.srchf k l0 id = some (r1, r2)) :
  Calls Try.prog 170 #[.slice A0 l0.length c0, .int .i64 id, .func (.func 171) #[] #[]] w fun e w' => e = .returned (.tuple #[.int .i64 r1, .bool r2]) ∧ Below w.heap.size w w' := by
 have hu82 := Try.underlying82
 have HR0 := Aside0.mk hr0; clear hr0 hc0
 unfold impl_Table_member.srchf at h
 by_cases hsz : l0.length < 4611686018427387904
 ·rw [if_pos hsz] at h
  have HB0 := Aside0.mk (Below.refl w.heap.size w)
  have H' := Aside0.mk h
  clear h; go_enter Try.func170, Try.ntmps170
  go_wp2
  go_loopg [9, 10] k (fun kx s9 s10 wr => ∃ lo hi : Nat, s9 = .int .i64 lo ∧ s10 = .int .i64 hi ∧ lo ≤ hi ∧ hi ≤ l0.length ∧ Aside0 (impl_Table_member.srchl0 kx l0 id lo hi = some (r1, r2)) ∧ Aside0 (Below w.heap.size w wr))
  case atStart => exact ⟨0, l0.length, rfl, rfl, Nat.zero_le _, Nat.le_refl _, H', HB0⟩
  case round =>
   clear H' HB0
   obtain ⟨lo, hi, rfl, rfl, hlh, hin, HA, HB⟩ := hrel
   cases gk with
   | zero => exact absurd HA.out (by simp [impl_Table_member.srchl0])
   | succ k1 =>
    have H := HA.out; clear HA
    simp only [impl_Table_member.srchl0] at H
    by_cases hlt : lo < hi
    ·rw [if_pos hlt] at H
     obtain ⟨ad, ead, hx0, hx1, hx2⟩ := at_T82 HR0.out (((lo : Int) + (hi : Int)) / 2) (by omega) (by omega)
     cases ead
     replace hx0 := pw_cell_below HB.out hx0
     replace hx1 := pw_cell_below HB.out hx1
     replace hx2 := pw_cell_below HB.out hx2
     have e_ : (((lo : Int) + (hi : Int)) / 2).toNat = (lo + hi) / 2 := by omega
     rw [e_] at hx0 hx1 hx2
     by_cases hc : impl_Table_member.cmpI (rd_T82 l0 (((lo : Int) + (hi : Int)) / 2)).f0 id < 0
     ·rw [if_pos hc] at H; have H2 := Aside0.mk H; clear H
      go_wp2_with (go_at_call 171; refine (impl_Table_member.key_calls _ _ _ _ _).mono ?_; rintro e w2 ⟨rfl, hb⟩)
      go_roundg k1
      case measure => omega
      case rel => exact ⟨(lo + hi) / 2 + 1, hi, by rw [show ((lo : Int) + (hi : Int)) / 2 + 1 = (((lo + hi) / 2 + 1 : Nat) : Int) by omega], rfl, by omega, hin, H2, ⟨below_step HB.out hb⟩⟩
     ·rw [if_neg hc] at H; have H2 := Aside0.mk H; clear H
      go_wp2_with (go_at_call 171; refine (impl_Table_member.key_calls _ _ _ _ _).mono ?_; rintro e w2 ⟨rfl, hb⟩)
      go_roundg k1
      case measure => omega
      case rel => exact ⟨lo, (lo + hi) / 2, rfl, by rw [show ((lo : Int) + (hi : Int)) / 2 = (((lo + hi) / 2 : Nat) : Int) by omega], by omega, by omega, H2, ⟨below_step HB.out hb⟩⟩
    ·rw [if_neg hlt] at H
     obtain rfl : hi = lo := by omega
     simp only [Option.some.injEq, Prod.mk.injEq] at H; obtain ⟨rfl, rfl⟩ := H
     by_cases hn : hi < l0.length
     ·obtain ⟨ad, ead, hx0, hx1, hx2⟩ := at_T82 HR0.out (hi : Int) (by omega) (by omega)
      cases ead
      replace hx0 := pw_cell_below HB.out hx0
      replace hx1 := pw_cell_below HB.out hx1
      replace hx2 := pw_cell_below HB.out hx2
      rw [Int.toNat_natCast] at hx0 hx1 hx2
      go_wp2_with (go_at_call 171; refine (impl_Table_member.key_calls _ _ _ _ _).mono ?_; rintro e w2 ⟨rfl, hb⟩)
      go_ret2
      exact ⟨by simp [hn], below_step HB.out hb⟩
     ·go_wp2
      go_ret2
      exact ⟨by simp [hn], HB.out⟩
 ·rw [if_neg hsz] at h
  exact absurd h (by simp)
theorem impl_Table_member.srchmono_l : ∀ (k : Nat) (x : List S82) (id : Int) (lo hi : Nat), LeO (impl_Table_member.srchl0 k x id lo hi) (impl_Table_member.srchl0 (k + 1) x id lo hi)
 | 0, _, _, _, _ => fun r h => by simp [impl_Table_member.srchl0] at h
 | k + 1, x, id, lo, hi => by
  have ih := impl_Table_member.srchmono_l k
  rw [impl_Table_member.srchl0, impl_Table_member.srchl0]
  repeat' first
   | (with_reducible exact ih _ _ _ _)
   | (with_reducible exact LeO.refl _)
   | (with_reducible refine LeO.ite ?_ ?_)
def impl_Table_member.f (k : Nat) (a0_0 : Int) (l0_1 : List S82) (a1 : Int) : Option (Int × Bool) := impl_Table_member.srchf k l0_1 a1
theorem impl_Table_member.mono : ∀ a0 a1 a2 k, LeO (impl_Table_member.f k a0 a1 a2) (impl_Table_member.f (k + 1) a0 a1 a2) := by
 intro a0 a1 a2 k
 unfold impl_Table_member.f impl_Table_member.srchf
 refine LeO.ite (impl_Table_member.srchmono_l _ _ _ _ _) (LeO.refl _)
set_option maxHeartbeats 8000000 in
set_option maxRecDepth 100000 in
theorem impl_Table_member.calls (k : Nat) (a0_0 : Int) (A0_1 : Option Addr) (c0_1 : Nat) (l0_1 : List S82) (a1 : Int) (r1 : Int) (r2 : Bool) (w : World) (hr0_1 : Kd.C k82 w A0_1 l0_1.length l0_1) (hc0_1 : l0_1.length ≤ c0_1) (h : impl_Table_member.f k a0_0 l0_1 a1 = some (r1, r2)) :
  Calls Try.prog 133 #[.agg #[.int .i64 a0_0, .slice A0_1 l0_1.length c0_1], .int .i64 a1] w fun e w' => e = .returned (.tuple #[.int .i64 r1, .bool r2]) ∧ Below w.heap.size w w' := by
 have hu41 := Try.underlying41
 go_enter Try.func133, Try.ntmps133
 go_wp2_with (go_at_call 170; refine (impl_Table_member.srchcalls k _ _ _ _ _ _ _ ?side1 hc0_1 h).mono ?_; (case side1 => repeat (first | exact hr0_1 | (with_reducible refine Kd.C_alloc ?_ _))); rintro e w' ⟨rfl, hb⟩)
 go_ret2
 exact ⟨rfl, below_step (by repeat (first | (with_reducible exact Below.refl _ _) | (with_reducible apply below_alloc))) hb⟩

end Go.Proofs.Ytigoajblljolcaa.XFnExactLeave
