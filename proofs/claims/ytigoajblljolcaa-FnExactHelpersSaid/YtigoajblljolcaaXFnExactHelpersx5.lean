-- Written by this session's own program (xprint.py) over the kit's print.
import Derived.Test.YtigoajblljolcaaXFnExactHelpersx0
import Derived.Test.YtigoajblljolcaaXFnExactHelpersx3
namespace Go.Proofs.Ytigoajblljolcaa.XFnExactHelpers
open Go.RowKit Go.Proofs.YtigoajblljolcaaW.PrintWords Go.Proofs.YtigoajblljolcaaW.PrintLast Go.Proofs.YtigoajblljolcaaW.PrintMore
attribute [local go_sem] max2_int min2_int max_two min_two max_three min_three max_four min_four   -- for this text's walks alone
set_option linter.unusedVariables false
set_option linter.unusedSimpArgs false

/-! ### spec_l11own: function 119 -/
def spec_l11own.f (l0_0 : List Int) (a0_1 : Int) (a0_2 : Int) (a0_3 : Int) (a0_4 : Int) (a0_5 : Int) : Option (List Int × Int × Int × Int × Int × Int) := (some (([] : List Int) : List Int)).bind fun y159 => (if y159.length + l0_0.length < 17592186044416 then (some ((y159 ++ l0_0), a0_1, a0_2, a0_3, a0_4, a0_5)) else (none))
set_option maxHeartbeats 8000000 in
set_option maxRecDepth 100000 in
theorem spec_l11own.calls (A0_0 : Option Addr) (c0_0 : Nat) (l0_0 : List Int) (a0_1 : Int) (a0_2 : Int) (a0_3 : Int) (a0_4 : Int) (a0_5 : Int) (r1 : List Int) (r2 : Int) (r3 : Int) (r4 : Int) (r5 : Int) (r6 : Int) (w : World) (hr0_0 : Kd.C (Kd.int .i64) w A0_0 l0_0.length l0_0) (hc0_0 : l0_0.length ≤ c0_0) (h : spec_l11own.f l0_0 a0_1 a0_2 a0_3 a0_4 a0_5 = some (r1, r2, r3, r4, r5, r6)) :
  Calls Try.prog 119 #[.agg #[.slice A0_0 l0_0.length c0_0, .int .i64 a0_1, .int .i64 a0_2, .int .i64 a0_3, .int .i64 a0_4, .int .i64 a0_5]] w fun e w' => ∃ v0_ : Value, e = .returned (.agg #[v0_, .int .i64 r2, .int .i64 r3, .int .i64 r4, .int .i64 r5, .int .i64 r6]) ∧ Kd.R (Kd.int .i64) 3 w' w.heap.size (fun _ => True) v0_ r1 ∧ Below w.heap.size w w' := by
 have hu90 := Try.underlying90
 have HR0_0 := Aside0.mk hr0_0; have HC0_0 := Aside0.mk hc0_0; clear hr0_0 hc0_0
 have HB := Aside0.mk (Below.refl w.heap.size w)
 have H : ((some (([] : List Int) : List Int)).bind fun y159 => (if y159.length + l0_0.length < 17592186044416 then (some ((y159 ++ l0_0), a0_1, a0_2, a0_3, a0_4, a0_5)) else (none))) = some (r1, r2, r3, r4, r5, r6) := h
 clear h
 obtain ⟨y159, hy159⟩ : ∃ y_ : List Int, y_ = (([] : List Int)) := ⟨_, rfl⟩
 replace H : (if y159.length + l0_0.length < 17592186044416 then (some ((y159 ++ l0_0), a0_1, a0_2, a0_3, a0_4, a0_5)) else (none)) = some (r1, r2, r3, r4, r5, r6) := by first | (rw [hy159]; with_reducible exact H) | (have H2_ := (Option.bind_some _ _).symm.trans H; rw [hy159]; with_reducible exact H2_) | (have H2_ := (Option.bind_some _ _).symm.trans H; with_reducible exact H2_) | with_reducible exact H | (rw [hy159]; exact H) | exact H
 have Ny159 := Aside0.mk hy159; clear hy159; go_enter Try.func119, Try.ntmps119
 replace H := Aside0.mk H
 go_wp2_with (first | ((with_reducible refine gate_dst (N := 1) rfl ?_); refine box_event ?hg (N := 1) ?hd (cs := #[.slice A0_0 l0_0.length c0_0, .int .i64 a0_1, .int .i64 a0_2, .int .i64 a0_3, .int .i64 a0_4, .int .i64 a0_5]) (t := 90) ?hr ?_; (case hd => rfl); (case hg => rfl); (case hr => first | (go_simp; done) | (go_simp; rfl)); intro gb157 hg w2 hbox hb; have n_ := an (below_step (by exact bel0) hb) (an (hbox) (an ((by rw [hg]; exact (below_size (by exact bel0)) : w.heap.size ≤ gb157)) (an ((by rw [hg]; exact (below_size (by exact bel0)) : w.heap.size ≤ gb157)) (trivial)))); clear HB; obtain ⟨HB, BK157, GW157, GE157, -⟩ := n_; clear hb hbox hg) | ((with_reducible refine gate_dst (N := 2) rfl ?_); refine box_event ?hg (N := 2) ?hd (cs := #[.slice none 0 0, .int .i64 0, .int .i64 0, .int .i64 0, .int .i64 0, .int .i64 0]) (t := 90) ?hr ?_; (case hd => rfl); (case hg => rfl); (case hr => first | (go_simp; done) | (go_simp; rfl)); intro gb158 hg w3 hbox hb; have n_ := an (blk_below (blk_nw BK157.out) hb) (an (below_step (by exact bel0) hb) (an (hbox) (an ((by rw [hg]; exact (below_size (by exact bel0)) : w.heap.size ≤ gb158)) (an ((by rw [hg]; exact (below_size (by exact bel0)) : w.heap.size ≤ gb158)) (an ((by rw [hg]; exact Nat.ne_of_lt (blk_lt (blk_nw BK157.out)) : gb157 ≠ gb158)) (an ((by rw [hg]; exact Nat.ne_of_gt (blk_lt (blk_nw BK157.out)) : gb158 ≠ gb157)) (trivial))))))); clear BK157 HB; obtain ⟨BK157, HB, BK158, GW158, GE158, NB157_158, NB158_157, -⟩ := n_; clear hb hbox hg) | ((with_reducible refine gate_dst (N := 3) rfl ?_); refine Kd.R_lit (Kd.int .i64) _ 3 ?hg (N := 3) ?hd (xs := ([] : List Int)) (inner := []) (ok := fun _ => True) (okp := fun _ => True) ?hr ?hp (fun _ hk => hk) trivial (Below.refl _ _) (Nat.le_refl _) (by simp) ?_; (case hd => rfl); (case hg => rfl); (case hr => first | (go_simp; done) | (go_simp; rfl)); (case hp => exact (Reps.none _ _)); intro v160 w4 ho5 hb hg_ hnew_; clear hg_ hnew_; (first | rw [← Ny159.out] at ho5 | (simp only [Int.reduceToNat] at ho5; rw [← Ny159.out] at ho5)); have n_ := an (Kd.R_lower ho5 (below_size (by exact bel0))) (an (blk_below (blk_nw BK157.out) hb) (an (blk_below (blk_nw BK158.out) hb) (an (below_step (by exact bel0) hb) (trivial)))); clear BK157 BK158 HB; obtain ⟨HO161, BK157, BK158, HB, -⟩ := n_; clear hb ho5; have hnb6 := NB157_158.out; have hnc6 := NB158_157.out; obtain ⟨hcz7_0, hcz7_1, hcz7_2, hcz7_3, hcz7_4, hcz7_5⟩ := blkz6 BK157.out; have hfz7_0 := blkf BK157.out; refine Stop.out ?_))
 refine Stop.mk ?_
 replace H := H.out
 by_cases c8 : y159.length + l0_0.length < 17592186044416
 ·rw [if_pos c8] at H; have LMc8 := Aside0.mk c8; clear c8
  obtain ⟨y162, hy162⟩ : ∃ y_ : List Int, y_ = (y159 ++ l0_0) := ⟨_, rfl⟩
  replace H : (some (y162, a0_1, a0_2, a0_3, a0_4, a0_5)) = some (r1, r2, r3, r4, r5, r6) := by first | (rw [hy162]; with_reducible exact H) | (have H2_ := (Option.bind_some _ _).symm.trans H; rw [hy162]; with_reducible exact H2_) | (have H2_ := (Option.bind_some _ _).symm.trans H; with_reducible exact H2_) | with_reducible exact H | (rw [hy162]; exact H) | exact H
  have Ny162 := Aside0.mk hy162; clear hy162; simp only [Option.some.injEq, Prod.mk.injEq] at H; obtain ⟨rfl, rfl, rfl, rfl, rfl, rfl⟩ := H
  go_wp2_with (first | ((with_reducible refine gate_builtin (b := .append) (xs := #[.tmp 3, .tmp 5]) rfl ?_); at_builtin; refine Kd.R_append_rows (Kd.int .i64) (w0 := w) w.heap.size rfl (.tmp 3) (.tmp 5) 63 3 (.int .i64 0) 8 rfl Try.underlying63 info3 rfl (by decide) (by omega) v160 y159 l0_0 _ _ _ (fun _ => True) (fun _ => False) rfl rfl ?aO ?aR (fun _ _ h => h) (fun _ h => h.elim) ?aF ?aB ?aS ?aL ?_; (case aR => repeat (first | exact (Kd.C_below HR0_0.out HB.out) | (with_reducible refine Kd.C_alloc ?_ _) | (with_reducible refine Kd.C_drewN ?_ _) | (with_reducible refine Kd.C_drew ?_))); (case aB => exact (by exact bel0)); (case aF => exact (fun _ _ => trivial)); (case aO => exact (by exact Kd.R_nw HO161.out)); (case aS => exact (below_size (by exact bel0))); (case aL => have := LMc8.out; omega); intro v163 w9 ho hb hg hat; rw [← Ny162.out] at ho; have n_ := an (blk_grown (blk_nw BK157.out) hg (Kd.R_ne HO161.out BK157.out (by decide))) (an (blk_grown (blk_nw BK158.out) hg (Kd.R_ne HO161.out BK158.out (by decide))) (an (hb) (an (ho) (trivial)))); clear BK157 BK158 HB HO161; obtain ⟨BK157, BK158, HB, HO164, -⟩ := n_; clear ho hb hg hat; obtain ⟨Ao10, co10, eo10⟩ := Kd.R_slice HO164.out; subst eo10; have hnb11 := NB157_158.out; have hnc11 := NB158_157.out; obtain ⟨hcz12_0, hcz12_1, hcz12_2, hcz12_3, hcz12_4, hcz12_5⟩ := blkz6 BK157.out; have hfz12_0 := blkf BK157.out; obtain ⟨hcz13_0, hcz13_1, hcz13_2, hcz13_3, hcz13_4, hcz13_5⟩ := blkz6 BK158.out; have hfz13_0 := blkf BK158.out))
  refine bodyPost_ret (results_cell_row rfl _ _ gb158 90 #[.slice Ao10 y162.length co10, .int .i64 a0_1, .int .i64 a0_2, .int .i64 a0_3, .int .i64 a0_4, .int .i64 a0_5] (0, 0) _ rfl (by (with_reducible repeat (first | refine blk_drewN ?_ _ | refine blk_drew ?_ | refine blk_alloc ?_ _)); refine blk_put (cs := #[.slice Ao10 y162.length co10, .int .i64 a0_1, .int .i64 a0_2, .int .i64 a0_3, .int .i64 a0_4, .int .i64 0]) ?_ 5 _ rfl; (with_reducible repeat (first | refine blk_drewN ?_ _ | refine blk_drew ?_ | refine blk_alloc ?_ _)); refine blk_put (cs := #[.slice Ao10 y162.length co10, .int .i64 a0_1, .int .i64 a0_2, .int .i64 a0_3, .int .i64 0, .int .i64 0]) ?_ 4 _ rfl; (with_reducible repeat (first | refine blk_drewN ?_ _ | refine blk_drew ?_ | refine blk_alloc ?_ _)); refine blk_put (cs := #[.slice Ao10 y162.length co10, .int .i64 a0_1, .int .i64 a0_2, .int .i64 0, .int .i64 0, .int .i64 0]) ?_ 3 _ rfl; (with_reducible repeat (first | refine blk_drewN ?_ _ | refine blk_drew ?_ | refine blk_alloc ?_ _)); refine blk_put (cs := #[.slice Ao10 y162.length co10, .int .i64 a0_1, .int .i64 0, .int .i64 0, .int .i64 0, .int .i64 0]) ?_ 2 _ rfl; (with_reducible repeat (first | refine blk_drewN ?_ _ | refine blk_drew ?_ | refine blk_alloc ?_ _)); refine blk_put (cs := #[.slice Ao10 y162.length co10, .int .i64 0, .int .i64 0, .int .i64 0, .int .i64 0, .int .i64 0]) ?_ 1 _ rfl; (with_reducible repeat (first | refine blk_drewN ?_ _ | refine blk_drew ?_ | refine blk_alloc ?_ _)); refine blk_put (cs := #[.slice none 0 0, .int .i64 0, .int .i64 0, .int .i64 0, .int .i64 0, .int .i64 0]) ?_ 0 _ rfl; (with_reducible repeat (first | refine blk_drewN ?_ _ | refine blk_drew ?_ | refine blk_alloc ?_ _)); refine blk_far ?_ NB158_157.out _; (with_reducible repeat (first | refine blk_drewN ?_ _ | refine blk_drew ?_ | refine blk_alloc ?_ _)); exact BK158.out) Try.underlying90 rfl (by kernel_rfl)) rfl ?_
  exact ⟨_, by first | rfl | (simp [errW_none, errW_some] <;> rfl) | (simp [*, errW_none, errW_some] <;> rfl), by (with_reducible repeat (first | apply Kd.R_alloc | apply Kd.R_drewN | apply Kd.R_drew)); exact Kd.R_mono (Kd.R_far (p := ⟨gb158, 5, none⟩) (Kd.R_far (p := ⟨gb158, 4, none⟩) (Kd.R_far (p := ⟨gb158, 3, none⟩) (Kd.R_far (p := ⟨gb158, 2, none⟩) (Kd.R_far (p := ⟨gb158, 1, none⟩) (Kd.R_far (p := ⟨gb158, 0, none⟩) (Kd.R_far (p := ⟨gb157, 0, none⟩) (Kd.R_types (Kd.R_types HO164.out BK157.out (by decide)) BK158.out (by decide)) (fun _ hk => hk.1.2) (.slice Ao10 y162.length co10)) (fun _ hk => hk.2) (.slice Ao10 y162.length co10)) (fun _ hk => hk.2) (.int .i64 a0_1)) (fun _ hk => hk.2) (.int .i64 a0_2)) (fun _ hk => hk.2) (.int .i64 a0_3)) (fun _ hk => hk.2) (.int .i64 a0_4)) (fun _ hk => hk.2) (.int .i64 a0_5)) (fun _ hk => trivial), by exact bel0⟩
 ·rw [if_neg c8] at H
  exact absurd H (by simp)

/-! ### spec_Live: function 184 -/
def spec_Live.l0 : Nat → List Int → Int → Int → List (S82) → Option (List Int)
  | 0, _, _, _, _ => none
  | k + 1, x3, x4, x166000, x166001 => if x4 < (x166001.length : Int) then (if 0 ≤ x4 then (if ((rd_T82 x166001 x4).f1) ≤ 1 then (if x3.length < 17592186044416 then (spec_Live.l0 k (x3 ++ [(rd_T82 x166001 x4).f0]) (wrap64 (x4 + 1)) x166000 x166001) else (none)) else (spec_Live.l0 k x3 (wrap64 (x4 + 1)) x166000 x166001)) else (none)) else (some x3)
def spec_Live.f (k : Nat) (a0_0 : Int) (l0_1 : List (S82)) : Option (List Int) := (spec_TableOk.f k a0_0 l0_1).bind fun t166 => (if t166 = true then (spec_Live.l0 k ([] : List Int) 0 a0_0 l0_1) else (some ([] : List Int)))
theorem spec_Live.mono_l : ∀ k, (∀ y0 y1 y2 y3, LeO (spec_Live.l0 k y0 y1 y2 y3) (spec_Live.l0 (k + 1) y0 y1 y2 y3))
 | 0 => fun _ _ _ _ r h => by simp [spec_Live.l0] at h
 | k + 1 => by
  have ih0 := spec_Live.mono_l k
  ·intro y0 y1 y2 y3
   unfold spec_Live.l0
   repeat' first
   | (with_reducible exact ih0 _ _ _ _)
   | (with_reducible exact spec_TableOk.mono _ _ _)
   | (with_reducible exact LeO.refl _)
   | (with_reducible exact LeO.none _)
   | (with_reducible refine LeO.ite ?_ ?_)
   | (with_reducible refine LeO.bind ?_ (fun _ => ?_))
   | exact ih0 _ _ _ _
   | exact spec_TableOk.mono _ _ _
   | exact LeO.none _
   | refine LeO.ite ?_ ?_
   | refine LeO.bind ?_ (fun _ => ?_)
theorem spec_Live.mono : ∀ a0 a1 k, LeO (spec_Live.f k a0 a1) (spec_Live.f (k + 1) a0 a1) := by
 intro a0 a1 k
 have ih0 := spec_Live.mono_l k
 unfold spec_Live.f
 repeat' first
   | (with_reducible exact ih0 _ _ _ _)
   | (with_reducible exact spec_TableOk.mono _ _ _)
   | (with_reducible exact LeO.refl _)
   | (with_reducible exact LeO.none _)
   | (with_reducible refine LeO.ite ?_ ?_)
   | (with_reducible refine LeO.bind ?_ (fun _ => ?_))
   | exact ih0 _ _ _ _
   | exact spec_TableOk.mono _ _ _
   | exact LeO.none _
   | refine LeO.ite ?_ ?_
   | refine LeO.bind ?_ (fun _ => ?_)
set_option maxHeartbeats 8000000 in
set_option maxRecDepth 100000 in
theorem spec_Live.calls (k : Nat) (a0_0 : Int) (A0_1 : Option Addr) (c0_1 : Nat) (l0_1 : List (S82)) (r : List Int) (w : World) (hr0_1 : Kd.C k82 w A0_1 l0_1.length l0_1) (hc0_1 : l0_1.length ≤ c0_1) (h : spec_Live.f k a0_0 l0_1 = some r) :
  Calls Try.prog 184 #[.agg #[.int .i64 a0_0, .slice A0_1 l0_1.length c0_1]] w fun e w' => ∃ v0_ : Value, e = .returned (v0_) ∧ Kd.R (Kd.int .i64) 3 w' w.heap.size (fun _ => True) v0_ r ∧ Below w.heap.size w w' := by
 have hu41 := Try.underlying41
 have HR0_1 := Aside0.mk hr0_1; have HC0_1 := Aside0.mk hc0_1; clear hr0_1 hc0_1
 have HB := Aside0.mk (Below.refl w.heap.size w)
 have H : ((spec_TableOk.f k a0_0 l0_1).bind fun t166 => (if t166 = true then (spec_Live.l0 k ([] : List Int) 0 a0_0 l0_1) else (some ([] : List Int)))) = some r := h
 clear h; replace H := Option.bind_eq_some_iff.mp H; obtain ⟨t166, A20, H⟩ := H; have A2 := Aside0.mk A20; clear A20; go_enter Try.func184, Try.ntmps184
 replace H := Aside0.mk H
 go_wp2_with (first | ((with_reducible refine gate_dst (N := 1) rfl ?_); refine box_event ?hg (N := 1) ?hd (cs := #[.int .i64 a0_0, .slice A0_1 l0_1.length c0_1]) (t := 41) ?hr ?_; (case hd => rfl); (case hg => rfl); (case hr => first | (go_simp; done) | (go_simp; rfl)); intro gb165 hg w3 hbox hb; have n_ := an (below_step (by exact bel0) hb) (an (hbox) (an ((by rw [hg]; exact (below_size (by exact bel0)) : w.heap.size ≤ gb165)) (an ((by rw [hg]; exact (below_size (by exact bel0)) : w.heap.size ≤ gb165)) (trivial)))); clear HB; obtain ⟨HB, BK165, GW165, GE165, -⟩ := n_; clear hb hbox hg; obtain ⟨hcz4_0, hcz4_1⟩ := blkz2 BK165.out; have hfz4_0 := blkf BK165.out) | ((with_reducible refine gate_callee (f := 77) rfl ?_); refine goesL_ (some 6) rfl rfl Try.func77 (by kernel_rfl) rfl #[.agg #[.int .i64 a0_0, .slice A0_1 l0_1.length c0_1]] rfl (by (try simp only [List.map_toArray, List.map_cons, List.map_nil]); first | done | rfl | (simp only [List.length_drop, List.length_take]; rfl)) ?_; (with_reducible refine (spec_TableOk.calls k a0_0 _ _ l0_1 t166 _ ?side1 ?side2 A2.out).mono ?_); (case side1 => repeat (first | exact (Kd.C_below HR0_1.out HB.out) | (with_reducible refine Kd.C_alloc ?_ _) | (with_reducible refine Kd.C_drewN ?_ _) | (with_reducible refine Kd.C_drew ?_))); (case side2 => exact HC0_1.out); rintro e w5 ⟨rfl, hb⟩; refine ⟨_, rfl, ?_⟩; have n_ := an (blk_below (blk_nw BK165.out) hb) (an (below_step (by exact bel0) hb) (trivial)); clear BK165 HB; obtain ⟨BK165, HB, -⟩ := n_; (try clear hb); (try clear hb2); (try clear hk); (try clear hi); refine Stop.out ?_))
 refine Stop.mk ?_
 replace H := H.out
 by_cases c6 : t166 = true
 ·subst c6; rw [if_pos rfl] at H
  have H' := Aside0.mk H
  clear H
  go_wp2
  go_loopg [3, 4] k (fun kq v3 v4 w' => ∃ (x3_1 : List Int) (x4_1 : Int), v4 = .int .i64 x4_1 ∧ Aside0 (spec_Live.l0 kq x3_1 x4_1 a0_0 l0_1 = some r) ∧ Aside0 (kq ≤ k) ∧ Aside0 (Kd.R (Kd.int .i64) 3 w' w.heap.size (fun _ => True) v3 x3_1) ∧ Aside0 (w'.heap[gb165]? = some (.cells #[.int .i64 a0_0, (.slice A0_1 l0_1.length c0_1)] 41 (0, 0))) ∧ Aside0 (Below w.heap.size w w'))
  case atStart => exact ⟨(([] : List Int)), (0), (by first | rfl | (simp; done) | (simp [*]; done)), H', ⟨Nat.le_refl _⟩, ⟨by first | exact Kd.R_nil _ _ _ _ _ | exact Kd.N_nil _ _ _ _ _ | exact Kd.V_nil _ _ _ _ _ | exact Kd.Q_nil _ _ _ _ _ | exact Kd.S_nil _ _ _ _ _⟩, ⟨by exact blk_nw BK165.out⟩, ⟨by exact bel0⟩⟩
  case round =>
   clear H'
   try clear c1; try clear p2; try clear c6; try clear hcz4_0; try clear hcz4_1; try clear hfz4_0; try clear hfz4_1
   obtain ⟨x3_1, x4_1, rfl, HA, HK1, HO_3, BK165, HB⟩ := hrel
   cases gk with
   | zero => exact absurd HA.out (by simp [spec_Live.l0])
   | succ k1 =>
    have H := HA.out; clear HA
    simp only [spec_Live.l0] at H
    by_cases c7 : x4_1 < (l0_1.length : Int)
    ·rw [if_pos c7] at H
     have c7b0 : decide (x4_1 < (l0_1.length : Int)) = true := decide_eq_true c7
     clear c7; (try simp only [c7b0])
     by_cases c8 : 0 ≤ x4_1
     ·rw [if_pos c8] at H; have c8b0 : decide (0 ≤ x4_1) = true := decide_eq_true c8; clear c8; (try simp only [c8b0])
      by_cases c9 : ((rd_T82 l0_1 x4_1).f1) ≤ 1
      ·rw [if_pos c9] at H; have c9b0 : decide (((rd_T82 l0_1 x4_1).f1) ≤ 1) = true := decide_eq_true c9; clear c9; (try simp only [c9b0])
       by_cases c10 : x3_1.length < 17592186044416
       ·rw [if_pos c10] at H; have LMc10 := Aside0.mk c10; clear c10
        obtain ⟨y169, hy169⟩ : ∃ y_ : List Int, y_ = (x3_1 ++ [(rd_T82 l0_1 x4_1).f0]) := ⟨_, rfl⟩
        replace H : (spec_Live.l0 k1 y169 (wrap64 (x4_1 + 1)) a0_0 l0_1) = some r := by first | (rw [hy169]; with_reducible exact H) | (have H2_ := (Option.bind_some _ _).symm.trans H; rw [hy169]; with_reducible exact H2_) | (have H2_ := (Option.bind_some _ _).symm.trans H; with_reducible exact H2_) | with_reducible exact H | (rw [hy169]; exact H) | exact H
        have Ny169 := Aside0.mk hy169; clear hy169
        have H' := Aside0.mk H
        clear H; obtain ⟨hcz11_0, hcz11_1⟩ := blkz2 BK165.out; have hfz11_0 := blkf BK165.out
        have p167 : 0 ≤ (x4_1 : Int) := of_decide_eq_true (by first | (with_reducible assumption) | assumption)
        have q167 : x4_1 < (l0_1.length : Int) := of_decide_eq_true (by first | (with_reducible assumption) | assumption)
        obtain ⟨ad167, e167, hx167_0, hx167_1, hx167_2⟩ := at_T82 HR0_1.out x4_1 p167 q167
        cases e167
        replace hx167_0 := (HB.out.cell (World.block_lt_of_cell? w _ hx167_0)).trans hx167_0
        replace hx167_1 := (HB.out.cell (World.block_lt_of_cell? w _ hx167_1)).trans hx167_1
        replace hx167_2 := (HB.out.cell (World.block_lt_of_cell? w _ hx167_2)).trans hx167_2
        replace p167 := eq_true p167
        replace q167 := eq_true q167
        have p168 : 0 ≤ (x4_1 : Int) := of_decide_eq_true (by first | (with_reducible assumption) | assumption)
        have q168 : x4_1 < (l0_1.length : Int) := of_decide_eq_true (by first | (with_reducible assumption) | assumption)
        obtain ⟨ad168, e168, hx168_0, hx168_1, hx168_2⟩ := at_T82 HR0_1.out x4_1 p168 q168
        obtain rfl : ad167 = ad168 := (by injection e168)
        replace hx168_0 := (HB.out.cell (World.block_lt_of_cell? w _ hx168_0)).trans hx168_0
        replace hx168_1 := (HB.out.cell (World.block_lt_of_cell? w _ hx168_1)).trans hx168_1
        replace hx168_2 := (HB.out.cell (World.block_lt_of_cell? w _ hx168_2)).trans hx168_2
        replace p168 := eq_true p168
        replace q168 := eq_true q168
        go_wp2_with (first | ((with_reducible refine gate_builtin (b := .append) (xs := #[.tmp 22, .tmp 29]) rfl ?_); at_builtin; refine Kd.R_append (Kd.int .i64) (w0 := w) w.heap.size rfl (.tmp 22) (.tmp 29) 63 3 (.int .i64 0) 8 rfl Try.underlying63 info3 rfl (by decide) (by omega) u3 x3_1 ((rd_T82 l0_1 x4_1).f0) [.int .i64 ((rd_T82 l0_1 x4_1).f0)] (fun _ => True) (fun _ => False) rfl rfl ?aP (fun _ hk => hk.elim) ?aF ?aO ?aB ?aS ?aL ?_; (case aP => exact rfl); (case aB => exact (by exact bel0)); (case aF => exact (fun _ _ => trivial)); (case aO => exact (by exact Kd.R_nw HO_3.out)); (case aS => exact (below_size (by exact bel0))); (case aL => have := LMc10.out; omega); intro v170 w12 ho hb hg hat; rw [← Ny169.out] at ho; have n_ := an (blk_grown (blk_nw BK165.out) hg (Kd.R_ne HO_3.out BK165.out (by decide))) (an (hb) (an (ho) (trivial))); clear BK165 HB HO_3; obtain ⟨BK165, HB, HO171, -⟩ := n_; clear ho hb hg hat))
        go_roundg k1
        case measure => have := HK1.out; omega
        case rel => exact ⟨(y169), (wrap64 (x4_1 + 1)), (by first | rfl | (simp; done) | (simp [*]; done)), H', ⟨by have := HK1.out; omega⟩, ⟨by exact Kd.R_nw HO171.out⟩, ⟨by exact blk_nw BK165.out⟩, ⟨by exact bel0⟩⟩
       ·rw [if_neg c10] at H
        exact absurd H (by simp)
      ·rw [if_neg c9] at H; have c9b0 : decide (((rd_T82 l0_1 x4_1).f1) ≤ 1) = false := decide_eq_false c9; clear c9; (try simp only [c9b0])
       have H' := Aside0.mk H
       clear H; obtain ⟨hcz13_0, hcz13_1⟩ := blkz2 BK165.out; have hfz13_0 := blkf BK165.out
       have p167 : 0 ≤ (x4_1 : Int) := of_decide_eq_true (by first | (with_reducible assumption) | assumption)
       have q167 : x4_1 < (l0_1.length : Int) := of_decide_eq_true (by first | (with_reducible assumption) | assumption)
       obtain ⟨ad167, e167, hx167_0, hx167_1, hx167_2⟩ := at_T82 HR0_1.out x4_1 p167 q167
       cases e167
       replace hx167_0 := (HB.out.cell (World.block_lt_of_cell? w _ hx167_0)).trans hx167_0
       replace hx167_1 := (HB.out.cell (World.block_lt_of_cell? w _ hx167_1)).trans hx167_1
       replace hx167_2 := (HB.out.cell (World.block_lt_of_cell? w _ hx167_2)).trans hx167_2
       replace p167 := eq_true p167
       replace q167 := eq_true q167
       go_wp2
       go_roundg k1
       case measure => have := HK1.out; omega
       case rel => exact ⟨(x3_1), (wrap64 (x4_1 + 1)), (by first | rfl | (simp; done) | (simp [*]; done)), H', ⟨by have := HK1.out; omega⟩, ⟨by exact Kd.R_nw HO_3.out⟩, ⟨by exact blk_nw BK165.out⟩, ⟨by exact bel0⟩⟩
     ·rw [if_neg c8] at H
      exact absurd H (by simp)
    ·rw [if_neg c7] at H
     have c7b0 : decide (x4_1 < (l0_1.length : Int)) = false := decide_eq_false c7
     clear c7; (try simp only [c7b0])
     obtain rfl := Option.some.inj H
     obtain ⟨hcz14_0, hcz14_1⟩ := blkz2 BK165.out; have hfz14_0 := blkf BK165.out
     go_wp2
     go_ret
     exact ⟨_, by first | rfl | (simp [errW_none, errW_some] <;> rfl) | (simp [*, errW_none, errW_some] <;> rfl), by exact Kd.R_nw HO_3.out, by exact bel0⟩
 ·replace c6 := Bool.eq_false_iff.mpr c6
  subst c6
  rw [if_neg (show ¬ (false = true) by decide)] at H
  obtain rfl := Option.some.inj H
  go_wp2
  go_ret
  exact ⟨_, by first | rfl | (simp [errW_none, errW_some] <;> rfl) | (simp [*, errW_none, errW_some] <;> rfl), by first | exact Kd.R_nil _ _ _ _ _ | exact Kd.N_nil _ _ _ _ _ | exact Kd.V_nil _ _ _ _ _ | exact Kd.Q_nil _ _ _ _ _ | exact Kd.S_nil _ _ _ _ _, by exact bel0⟩

/-! ### spec_l11others: function 156 -/
def spec_l11others.l0 : Nat → List Int → List Int → Int → Int → List (S82) → Option (List Int)
  | 0, _, _, _, _, _ => none
  | k + 1, x3, x4, x5, x173000, x173001 => if x5 < (x4.length : Int) then (if 0 ≤ x5 then (if (rd x4 x5) = x173000 then (spec_l11others.l0 k x3 x4 (wrap64 (x5 + 1)) x173000 x173001) else (if x3.length < 17592186044416 then (spec_l11others.l0 k (x3 ++ [rd x4 x5]) x4 (wrap64 (x5 + 1)) x173000 x173001) else (none))) else (none)) else (some x3)
def spec_l11others.f (k : Nat) (a0_0 : Int) (l0_1 : List (S82)) : Option (List Int) := (spec_Live.f k a0_0 l0_1).bind fun t173 => (spec_l11others.l0 k ([] : List Int) t173 0 a0_0 l0_1)
theorem spec_l11others.mono_l : ∀ k, (∀ y0 y1 y2 y3 y4, LeO (spec_l11others.l0 k y0 y1 y2 y3 y4) (spec_l11others.l0 (k + 1) y0 y1 y2 y3 y4))
 | 0 => fun _ _ _ _ _ r h => by simp [spec_l11others.l0] at h
 | k + 1 => by
  have ih0 := spec_l11others.mono_l k
  ·intro y0 y1 y2 y3 y4
   unfold spec_l11others.l0
   repeat' first
   | (with_reducible exact ih0 _ _ _ _ _)
   | (with_reducible exact spec_Live.mono _ _ _)
   | (with_reducible exact LeO.refl _)
   | (with_reducible exact LeO.none _)
   | (with_reducible refine LeO.ite ?_ ?_)
   | (with_reducible refine LeO.bind ?_ (fun _ => ?_))
   | exact ih0 _ _ _ _ _
   | exact spec_Live.mono _ _ _
   | exact LeO.none _
   | refine LeO.ite ?_ ?_
   | refine LeO.bind ?_ (fun _ => ?_)
theorem spec_l11others.mono : ∀ a0 a1 k, LeO (spec_l11others.f k a0 a1) (spec_l11others.f (k + 1) a0 a1) := by
 intro a0 a1 k
 have ih0 := spec_l11others.mono_l k
 unfold spec_l11others.f
 repeat' first
   | (with_reducible exact ih0 _ _ _ _ _)
   | (with_reducible exact spec_Live.mono _ _ _)
   | (with_reducible exact LeO.refl _)
   | (with_reducible exact LeO.none _)
   | (with_reducible refine LeO.ite ?_ ?_)
   | (with_reducible refine LeO.bind ?_ (fun _ => ?_))
   | exact ih0 _ _ _ _ _
   | exact spec_Live.mono _ _ _
   | exact LeO.none _
   | refine LeO.ite ?_ ?_
   | refine LeO.bind ?_ (fun _ => ?_)
set_option maxHeartbeats 8000000 in
set_option maxRecDepth 100000 in
theorem spec_l11others.calls (k : Nat) (a0_0 : Int) (A0_1 : Option Addr) (c0_1 : Nat) (l0_1 : List (S82)) (r : List Int) (w : World) (hr0_1 : Kd.C k82 w A0_1 l0_1.length l0_1) (hc0_1 : l0_1.length ≤ c0_1) (h : spec_l11others.f k a0_0 l0_1 = some r) :
  Calls Try.prog 156 #[.agg #[.int .i64 a0_0, .slice A0_1 l0_1.length c0_1]] w fun e w' => ∃ v0_ : Value, e = .returned (v0_) ∧ Kd.R (Kd.int .i64) 3 w' w.heap.size (fun _ => True) v0_ r ∧ Below w.heap.size w w' := by
 have hu41 := Try.underlying41
 have HR0_1 := Aside0.mk hr0_1; have HC0_1 := Aside0.mk hc0_1; clear hr0_1 hc0_1
 have HB := Aside0.mk (Below.refl w.heap.size w)
 have H : ((spec_Live.f k a0_0 l0_1).bind fun t173 => (spec_l11others.l0 k ([] : List Int) t173 0 a0_0 l0_1)) = some r := h
 clear h; replace H := Option.bind_eq_some_iff.mp H; obtain ⟨t173, A20, H⟩ := H; have A2 := Aside0.mk A20; clear A20
 have H' := Aside0.mk H
 clear H; go_enter Try.func156, Try.ntmps156
 go_wp2_with (first | ((with_reducible refine gate_dst (N := 1) rfl ?_); refine box_event ?hg (N := 1) ?hd (cs := #[.int .i64 a0_0, .slice A0_1 l0_1.length c0_1]) (t := 41) ?hr ?_; (case hd => rfl); (case hg => rfl); (case hr => first | (go_simp; done) | (go_simp; rfl)); intro gb172 hg w3 hbox hb; have n_ := an (below_step (by exact bel0) hb) (an (hbox) (an ((by rw [hg]; exact (below_size (by exact bel0)) : w.heap.size ≤ gb172)) (an ((by rw [hg]; exact (below_size (by exact bel0)) : w.heap.size ≤ gb172)) (trivial)))); clear HB; obtain ⟨HB, BK172, GW172, GE172, -⟩ := n_; clear hb hbox hg; obtain ⟨hcz4_0, hcz4_1⟩ := blkz2 BK172.out; have hfz4_0 := blkf BK172.out) | (go_at_call 184; (with_reducible refine (spec_Live.calls k a0_0 _ _ l0_1 t173 _ ?side1 ?side2 A2.out).mono ?_); (case side1 => repeat (first | exact (Kd.C_below HR0_1.out HB.out) | (with_reducible refine Kd.C_alloc ?_ _) | (with_reducible refine Kd.C_drewN ?_ _) | (with_reducible refine Kd.C_drew ?_))); (case side2 => exact HC0_1.out); rintro e w5 ⟨v174, rfl, ho0, hb⟩; have n_ := an (Kd.R_lower ho0 (below_size (by exact bel0))) (an (blk_below (blk_nw BK172.out) hb) (an (below_step (by exact bel0) hb) (trivial))); clear BK172 HB; obtain ⟨HO175, BK172, HB, -⟩ := n_; (try clear hb); (try clear hb2); (try clear hk); (try clear hi); (try clear ho0)))
 repeat (go_quiet (fail); try go_wp2_with (first | ((with_reducible refine gate_dst (N := 1) rfl ?_); refine box_event ?hg (N := 1) ?hd (cs := #[.int .i64 a0_0, .slice A0_1 l0_1.length c0_1]) (t := 41) ?hr ?_; (case hd => rfl); (case hg => rfl); (case hr => first | (go_simp; done) | (go_simp; rfl)); intro gb172 hg w3 hbox hb; have n_ := an (below_step (by exact bel0) hb) (an (hbox) (an ((by rw [hg]; exact (below_size (by exact bel0)) : w.heap.size ≤ gb172)) (an ((by rw [hg]; exact (below_size (by exact bel0)) : w.heap.size ≤ gb172)) (trivial)))); clear HB; obtain ⟨HB, BK172, GW172, GE172, -⟩ := n_; clear hb hbox hg; obtain ⟨hcz4_0, hcz4_1⟩ := blkz2 BK172.out; have hfz4_0 := blkf BK172.out) | (go_at_call 184; (with_reducible refine (spec_Live.calls k a0_0 _ _ l0_1 t173 _ ?side1 ?side2 A2.out).mono ?_); (case side1 => repeat (first | exact (Kd.C_below HR0_1.out HB.out) | (with_reducible refine Kd.C_alloc ?_ _) | (with_reducible refine Kd.C_drewN ?_ _) | (with_reducible refine Kd.C_drew ?_))); (case side2 => exact HC0_1.out); rintro e w5 ⟨v174, rfl, ho0, hb⟩; have n_ := an (Kd.R_lower ho0 (below_size (by exact bel0))) (an (blk_below (blk_nw BK172.out) hb) (an (below_step (by exact bel0) hb) (trivial))); clear BK172 HB; obtain ⟨HO175, BK172, HB, -⟩ := n_; (try clear hb); (try clear hb2); (try clear hk); (try clear hi); (try clear ho0))))
 go_loopg [3, 5] k (fun kq v3 v5 w' => ∃ (x3_1 : List Int) (x5_1 : Int), v5 = .int .i64 x5_1 ∧ Aside0 (spec_l11others.l0 kq x3_1 t173 x5_1 a0_0 l0_1 = some r) ∧ Aside0 (kq ≤ k) ∧ Aside0 (Kd.R (Kd.int .i64) 3 w' w.heap.size (fun k_ => some k_ ≠ (v174 : Value).ownBlock) v3 x3_1) ∧ Aside0 (Kd.R (Kd.int .i64) 3 w' w.heap.size (fun k_ => some k_ ≠ (v3 : Value).ownBlock) v174 t173) ∧ Aside0 (w'.heap[gb172]? = some (.cells #[.int .i64 a0_0, (.slice A0_1 l0_1.length c0_1)] 41 (0, 0))) ∧ Aside0 (Below w.heap.size w w'))
 case atStart => exact ⟨(([] : List Int)), (0), (by first | rfl | (simp; done) | (simp [*]; done)), H', ⟨Nat.le_refl _⟩, ⟨by first | exact Kd.R_nil _ _ _ _ _ | exact Kd.N_nil _ _ _ _ _ | exact Kd.V_nil _ _ _ _ _ | exact Kd.Q_nil _ _ _ _ _ | exact Kd.S_nil _ _ _ _ _⟩, ⟨by exact Kd.R_nw (Kd.R_mono HO175.out (fun _ hk => (by simp [Value.ownBlock])))⟩, ⟨by exact blk_nw BK172.out⟩, ⟨by exact bel0⟩⟩
 case round =>
  clear H'
  try clear c1; try clear p2; try clear hcz4_0; try clear hcz4_1; try clear hfz4_0; try clear hfz4_1
  obtain ⟨x3_1, x5_1, rfl, HA, HK1, HO_3, HO_4, BK172, HB⟩ := hrel
  cases gk with
  | zero => exact absurd HA.out (by simp [spec_l11others.l0])
  | succ k1 =>
   have H := HA.out; clear HA
   simp only [spec_l11others.l0] at H
   by_cases c6 : x5_1 < (t173.length : Int)
   ·rw [if_pos c6] at H
    have c6b0 : decide (x5_1 < (t173.length : Int)) = true := decide_eq_true c6
    clear c6; (try simp only [c6b0])
    by_cases c7 : 0 ≤ x5_1
    ·rw [if_pos c7] at H; have c7b0 : decide (0 ≤ x5_1) = true := decide_eq_true c7; clear c7; (try simp only [c7b0])
     by_cases c8 : (rd t173 x5_1) = a0_0
     ·rw [if_pos c8] at H; have c8b0 : ((rd t173 x5_1) == a0_0) = true := beq_iff_eq.mpr c8; have c8b1 : ((rd t173 x5_1) != a0_0) = false := bne_eq_false_iff_eq.mpr c8; clear c8
      have H' := Aside0.mk H
      clear H
      obtain ⟨Ao9, co9, eo9⟩ := Kd.R_slice HO_4.out
      subst eo9
      have p176 : 0 ≤ (x5_1 : Int) := of_decide_eq_true (by first | (with_reducible assumption) | assumption)
      have q176 : x5_1 < (t173.length : Int) := of_decide_eq_true (by first | (with_reducible assumption) | assumption)
      obtain ⟨ad176, e176, hx176_0⟩ := Kd.at_int (Kd.R_reads' HO_4.out).2.2 x5_1 p176 q176
      cases e176
      replace p176 := eq_true p176
      replace q176 := eq_true q176
      obtain ⟨hcz10_0, hcz10_1⟩ := blkz2 BK172.out; have hfz10_0 := blkf BK172.out
      go_wp2
      repeat (go_quiet (fail); try go_wp2)
      go_roundg k1
      case measure => have := HK1.out; omega
      case rel => exact ⟨(x3_1), (wrap64 (x5_1 + 1)), (by first | rfl | (simp; done) | (simp [*]; done)), H', ⟨by have := HK1.out; omega⟩, ⟨by exact Kd.R_nw HO_3.out⟩, ⟨by exact Kd.R_nw HO_4.out⟩, ⟨by exact blk_nw BK172.out⟩, ⟨by exact bel0⟩⟩
     ·rw [if_neg c8] at H; have c8b0 : ((rd t173 x5_1) == a0_0) = false := beq_eq_false_iff_ne.mpr c8; have c8b1 : ((rd t173 x5_1) != a0_0) = true := bne_iff_ne.mpr c8
      by_cases c11 : x3_1.length < 17592186044416
      ·rw [if_pos c11] at H; have LMc11 := Aside0.mk c11; clear c11
       obtain ⟨y178, hy178⟩ : ∃ y_ : List Int, y_ = (x3_1 ++ [rd t173 x5_1]) := ⟨_, rfl⟩
       replace H : (spec_l11others.l0 k1 y178 t173 (wrap64 (x5_1 + 1)) a0_0 l0_1) = some r := by first | (rw [hy178]; with_reducible exact H) | (have H2_ := (Option.bind_some _ _).symm.trans H; rw [hy178]; with_reducible exact H2_) | (have H2_ := (Option.bind_some _ _).symm.trans H; with_reducible exact H2_) | with_reducible exact H | (rw [hy178]; exact H) | exact H
       have Ny178 := Aside0.mk hy178; clear hy178
       have H' := Aside0.mk H
       clear H
       obtain ⟨Ao12, co12, eo12⟩ := Kd.R_slice HO_4.out
       subst eo12
       have p176 : 0 ≤ (x5_1 : Int) := of_decide_eq_true (by first | (with_reducible assumption) | assumption)
       have q176 : x5_1 < (t173.length : Int) := of_decide_eq_true (by first | (with_reducible assumption) | assumption)
       obtain ⟨ad176, e176, hx176_0⟩ := Kd.at_int (Kd.R_reads' HO_4.out).2.2 x5_1 p176 q176
       cases e176
       replace p176 := eq_true p176
       replace q176 := eq_true q176
       obtain ⟨hcz13_0, hcz13_1⟩ := blkz2 BK172.out; have hfz13_0 := blkf BK172.out
       have p177 : 0 ≤ (x5_1 : Int) := of_decide_eq_true (by first | (with_reducible assumption) | assumption)
       have q177 : x5_1 < (t173.length : Int) := of_decide_eq_true (by first | (with_reducible assumption) | assumption)
       obtain ⟨ad177, e177, hx177_0⟩ := Kd.at_int (Kd.R_reads' HO_4.out).2.2 x5_1 p177 q177
       obtain rfl : ad176 = ad177 := (by injection e177)
       replace p177 := eq_true p177
       replace q177 := eq_true q177
       go_wp2_with (first | ((with_reducible refine gate_builtin (b := .append) (xs := #[.tmp 21, .tmp 26]) rfl ?_); at_builtin; refine Kd.R_append (Kd.int .i64) (w0 := w) w.heap.size rfl (.tmp 21) (.tmp 26) 63 3 (.int .i64 0) 8 rfl Try.underlying63 info3 rfl (by decide) (by omega) u3 x3_1 (rd t173 x5_1) [.int .i64 (rd t173 x5_1)] (fun k_ => some k_ ≠ (.slice (some ad176) t173.length co12 : Value).ownBlock) (fun _ => False) rfl rfl ?aP (fun _ hk => hk.elim) ?aF ?aO ?aB ?aS ?aL ?_; (case aP => exact rfl); (case aB => exact (by exact bel0)); (case aF => exact (fun k_ hk => Kd.fresh' (Kd.R_lt (by exact Kd.R_nw HO_4.out)) k_ hk)); (case aO => exact (by exact Kd.R_nw HO_3.out)); (case aS => exact (below_size (by exact bel0))); (case aL => have := LMc11.out; omega); intro v179 w14 ho hb hg hat; rw [← Ny178.out] at ho; have n_ := an (Kd.R_after (ok := (fun _ => True)) (by exact Kd.R_nw (Kd.R_mono HO_4.out (fun _ hk => ⟨trivial, hk⟩))) hg hat) (an (blk_grown (blk_nw BK172.out) hg (Kd.R_ne HO_3.out BK172.out (by decide))) (an (hb) (an (ho) (trivial)))); clear HO_4 BK172 HB HO_3; obtain ⟨HO_4, BK172, HB, HO180, -⟩ := n_; clear ho hb hg hat))
       repeat (go_quiet (fail); try go_wp2_with (first | ((with_reducible refine gate_builtin (b := .append) (xs := #[.tmp 21, .tmp 26]) rfl ?_); at_builtin; refine Kd.R_append (Kd.int .i64) (w0 := w) w.heap.size rfl (.tmp 21) (.tmp 26) 63 3 (.int .i64 0) 8 rfl Try.underlying63 info3 rfl (by decide) (by omega) u3 x3_1 (rd t173 x5_1) [.int .i64 (rd t173 x5_1)] (fun k_ => some k_ ≠ (.slice (some ad176) t173.length co12 : Value).ownBlock) (fun _ => False) rfl rfl ?aP (fun _ hk => hk.elim) ?aF ?aO ?aB ?aS ?aL ?_; (case aP => exact rfl); (case aB => exact (by exact bel0)); (case aF => exact (fun k_ hk => Kd.fresh' (Kd.R_lt (by exact Kd.R_nw HO_4.out)) k_ hk)); (case aO => exact (by exact Kd.R_nw HO_3.out)); (case aS => exact (below_size (by exact bel0))); (case aL => have := LMc11.out; omega); intro v179 w14 ho hb hg hat; rw [← Ny178.out] at ho; have n_ := an (Kd.R_after (ok := (fun _ => True)) (by exact Kd.R_nw (Kd.R_mono HO_4.out (fun _ hk => ⟨trivial, hk⟩))) hg hat) (an (blk_grown (blk_nw BK172.out) hg (Kd.R_ne HO_3.out BK172.out (by decide))) (an (hb) (an (ho) (trivial)))); clear HO_4 BK172 HB HO_3; obtain ⟨HO_4, BK172, HB, HO180, -⟩ := n_; clear ho hb hg hat)))
       go_roundg k1
       case measure => have := HK1.out; omega
       case rel => exact ⟨(y178), (wrap64 (x5_1 + 1)), (by first | rfl | (simp; done) | (simp [*]; done)), H', ⟨by have := HK1.out; omega⟩, ⟨by exact Kd.R_nw HO180.out⟩, ⟨by exact Kd.R_nw (Kd.R_mono HO_4.out (fun _ hk => hk.2))⟩, ⟨by exact blk_nw BK172.out⟩, ⟨by exact bel0⟩⟩
      ·rw [if_neg c11] at H
       exact absurd H (by simp)
    ·rw [if_neg c7] at H
     exact absurd H (by simp)
   ·rw [if_neg c6] at H
    have c6b0 : decide (x5_1 < (t173.length : Int)) = false := decide_eq_false c6
    clear c6; (try simp only [c6b0])
    obtain rfl := Option.some.inj H
    obtain ⟨Ao15, co15, eo15⟩ := Kd.R_slice HO_4.out
    subst eo15
    go_wp2
    repeat (go_quiet (fail); try go_wp2)
    go_ret
    exact ⟨_, by first | rfl | (simp [errW_none, errW_some] <;> rfl) | (simp [*, errW_none, errW_some] <;> rfl), by exact Kd.R_nw (Kd.R_mono HO_3.out (fun _ hk => trivial)), by exact bel0⟩

/-! ### spec_Mix: function 185 -/
def spec_Mix.f (a0 : Int) : Option (Int) := if a0 < 0 then (some 0) else (if a0 > 2147483647 then (some 0) else (some (Int.tmod (wrap64 ((wrap64 (a0 * 16807)) + 11)) 2147483647)))
set_option maxHeartbeats 8000000 in
set_option maxRecDepth 100000 in
theorem spec_Mix.calls (a0 : Int) (r : Int) (w : World) (h : spec_Mix.f a0 = some r) :
  Calls Try.prog 185 #[.int .i64 a0] w fun e w' => e = .returned (.int .i64 r) ∧ Drawn0 w w' := by
 have H : (if a0 < 0 then (some 0) else (if a0 > 2147483647 then (some 0) else (some (Int.tmod (wrap64 ((wrap64 (a0 * 16807)) + 11)) 2147483647)))) = some r := h
 clear h
 by_cases c2 : a0 < 0
 ·rw [if_pos c2] at H; have c2b0 : decide (a0 < 0) = true := decide_eq_true c2; clear c2; (try simp only [c2b0])
  obtain rfl := Option.some.inj H
  go_enter Try.func185, Try.ntmps185
  go_wp2
  go_ret
  exact ⟨by first | rfl | (simp; done) | (simp [*]; done), by repeat (first | exact Drawn0.refl _ | apply Drawn0.step)⟩
 ·rw [if_neg c2] at H; have c2b0 : decide (a0 < 0) = false := decide_eq_false c2; clear c2; (try simp only [c2b0])
  by_cases c3 : a0 > 2147483647
  ·rw [if_pos c3] at H; have c3b0 : decide (2147483647 < a0) = true := decide_eq_true c3; clear c3; (try simp only [c3b0])
   obtain rfl := Option.some.inj H
   go_enter Try.func185, Try.ntmps185
   go_wp2
   go_ret
   exact ⟨by first | rfl | (simp; done) | (simp [*]; done), by repeat (first | exact Drawn0.refl _ | apply Drawn0.step)⟩
  ·rw [if_neg c3] at H; have c3b0 : decide (2147483647 < a0) = false := decide_eq_false c3; clear c3; (try simp only [c3b0])
   obtain rfl := Option.some.inj H
   go_enter Try.func185, Try.ntmps185
   go_wp2
   go_ret
   exact ⟨by first | rfl | (simp; done) | (simp [*]; done), by repeat (first | exact Drawn0.refl _ | apply Drawn0.step)⟩

/-! ### spec_l11shuffle: function 157 -/
def spec_l11shuffle.l0 : Nat → Int → List Int → Int → Option (List Int × Int)
  | 0, _, _, _ => none
  | k + 1, x1, x6, x7 => if x7 > 0 then ((spec_Mix.f x1).bind fun t187 => (if (wrap64 (x7 + 1)) = 0 then (none) else (if 0 ≤ x7 then (if x7 < (x6.length : Int) then (if 0 ≤ (Int.tmod t187 (wrap64 (x7 + 1))) then (if (Int.tmod t187 (wrap64 (x7 + 1))) < (x6.length : Int) then (spec_l11shuffle.l0 k t187 ((x6.set (x7 : Int).toNat (rd x6 (Int.tmod t187 (wrap64 (x7 + 1))))).set ((Int.tmod t187 (wrap64 (x7 + 1))) : Int).toNat (rd x6 x7)) (wrap64 (x7 - 1))) else (none)) else (none)) else (none)) else (none)))) else (some (x6, x1))
def spec_l11shuffle.f (k : Nat) (l0 : List Int) (a1 : Int) : Option (List Int × Int) := (some (([] : List Int) : List Int)).bind fun y181 => (if y181.length + l0.length < 17592186044416 then ((some (y181 ++ l0 : List Int)).bind fun y184 => (spec_l11shuffle.l0 k a1 y184 (wrap64 ((y184.length : Int) - 1)))) else (none))
theorem spec_l11shuffle.mono_l : ∀ k, (∀ y0 y1 y2, LeO (spec_l11shuffle.l0 k y0 y1 y2) (spec_l11shuffle.l0 (k + 1) y0 y1 y2))
 | 0 => fun _ _ _ r h => by simp [spec_l11shuffle.l0] at h
 | k + 1 => by
  have ih0 := spec_l11shuffle.mono_l k
  ·intro y0 y1 y2
   unfold spec_l11shuffle.l0
   repeat' first
   | (with_reducible exact ih0 _ _ _)
   | (with_reducible exact LeO.refl _)
   | (with_reducible exact LeO.none _)
   | (with_reducible refine LeO.ite ?_ ?_)
   | (with_reducible refine LeO.bind ?_ (fun _ => ?_))
   | exact ih0 _ _ _
   | exact LeO.none _
   | refine LeO.ite ?_ ?_
   | refine LeO.bind ?_ (fun _ => ?_)
theorem spec_l11shuffle.mono : ∀ a0 a1 k, LeO (spec_l11shuffle.f k a0 a1) (spec_l11shuffle.f (k + 1) a0 a1) := by
 intro a0 a1 k
 have ih0 := spec_l11shuffle.mono_l k
 unfold spec_l11shuffle.f
 repeat' first
   | (with_reducible exact ih0 _ _ _)
   | (with_reducible exact LeO.refl _)
   | (with_reducible exact LeO.none _)
   | (with_reducible refine LeO.ite ?_ ?_)
   | (with_reducible refine LeO.bind ?_ (fun _ => ?_))
   | exact ih0 _ _ _
   | exact LeO.none _
   | refine LeO.ite ?_ ?_
   | refine LeO.bind ?_ (fun _ => ?_)
set_option maxHeartbeats 8000000 in
set_option maxRecDepth 100000 in
theorem spec_l11shuffle.calls (k : Nat) (A0 : Option Addr) (c0 : Nat) (l0 : List Int) (a1 : Int) (r1 : List Int) (r2 : Int) (w : World) (hr0 : Kd.C (Kd.int .i64) w A0 l0.length l0) (hc0 : l0.length ≤ c0) (h : spec_l11shuffle.f k l0 a1 = some (r1, r2)) :
  Calls Try.prog 157 #[.slice A0 l0.length c0, .int .i64 a1] w fun e w' => ∃ v0_ : Value, e = .returned (.tuple #[v0_, .int .i64 r2]) ∧ Kd.R (Kd.int .i64) 3 w' w.heap.size (fun _ => True) v0_ r1 ∧ Below w.heap.size w w' := by
 have HR0 := Aside0.mk hr0; have HC0 := Aside0.mk hc0; clear hr0 hc0
 have HB := Aside0.mk (Below.refl w.heap.size w)
 have H : ((some (([] : List Int) : List Int)).bind fun y181 => (if y181.length + l0.length < 17592186044416 then ((some (y181 ++ l0 : List Int)).bind fun y184 => (spec_l11shuffle.l0 k a1 y184 (wrap64 ((y184.length : Int) - 1)))) else (none))) = some (r1, r2) := h
 clear h
 obtain ⟨y181, hy181⟩ : ∃ y_ : List Int, y_ = (([] : List Int)) := ⟨_, rfl⟩
 replace H : (if y181.length + l0.length < 17592186044416 then ((some (y181 ++ l0 : List Int)).bind fun y184 => (spec_l11shuffle.l0 k a1 y184 (wrap64 ((y184.length : Int) - 1)))) else (none)) = some (r1, r2) := by first | (rw [hy181]; with_reducible exact H) | (have H2_ := (Option.bind_some _ _).symm.trans H; rw [hy181]; with_reducible exact H2_) | (have H2_ := (Option.bind_some _ _).symm.trans H; with_reducible exact H2_) | with_reducible exact H | (rw [hy181]; exact H) | exact H
 have Ny181 := Aside0.mk hy181; clear hy181; go_enter Try.func157, Try.ntmps157
 replace H := Aside0.mk H
 go_wp2_with (first | ((with_reducible refine gate_dst (N := 10) rfl ?_); refine Kd.R_lit (Kd.int .i64) _ 3 ?hg (N := 10) ?hd (xs := ([] : List Int)) (inner := []) (ok := fun _ => True) (okp := fun _ => True) ?hr ?hp (fun _ hk => hk) trivial (Below.refl _ _) (Nat.le_refl _) (by simp) ?_; (case hd => rfl); (case hg => rfl); (case hr => first | (go_simp; done) | (go_simp; rfl)); (case hp => exact (Reps.none _ _)); intro v182 w3 ho4 hb hg_ hnew_; clear hg_ hnew_; (first | rw [← Ny181.out] at ho4 | (simp only [Int.reduceToNat] at ho4; rw [← Ny181.out] at ho4)); have n_ := an (Kd.R_lower ho4 (below_size (by exact bel0))) (an (below_step (by exact bel0) hb) (trivial)); clear HB; obtain ⟨HO183, HB, -⟩ := n_; clear hb ho4; refine Stop.out ?_))
 refine Stop.mk ?_
 replace H := H.out
 by_cases c5 : y181.length + l0.length < 17592186044416
 ·rw [if_pos c5] at H; have LMc5 := Aside0.mk c5; clear c5
  obtain ⟨y184, hy184⟩ : ∃ y_ : List Int, y_ = (y181 ++ l0) := ⟨_, rfl⟩
  replace H : (spec_l11shuffle.l0 k a1 y184 (wrap64 ((y184.length : Int) - 1))) = some (r1, r2) := by first | (rw [hy184]; with_reducible exact H) | (have H2_ := (Option.bind_some _ _).symm.trans H; rw [hy184]; with_reducible exact H2_) | (have H2_ := (Option.bind_some _ _).symm.trans H; with_reducible exact H2_) | with_reducible exact H | (rw [hy184]; exact H) | exact H
  have Ny184 := Aside0.mk hy184; clear hy184
  have H' := Aside0.mk H
  clear H
  go_wp2_with (first | ((with_reducible refine gate_builtin (b := .append) (xs := #[.tmp 10, .tmp 11]) rfl ?_); at_builtin; refine Kd.R_append_rows (Kd.int .i64) (w0 := w) w.heap.size rfl (.tmp 10) (.tmp 11) 63 3 (.int .i64 0) 8 rfl Try.underlying63 info3 rfl (by decide) (by omega) v182 y181 l0 _ _ _ (fun _ => True) (fun _ => False) rfl rfl ?aO ?aR (fun _ _ h => h) (fun _ h => h.elim) ?aF ?aB ?aS ?aL ?_; (case aR => repeat (first | exact (Kd.C_below HR0.out HB.out) | (with_reducible refine Kd.C_alloc ?_ _) | (with_reducible refine Kd.C_drewN ?_ _) | (with_reducible refine Kd.C_drew ?_))); (case aB => exact (by exact bel0)); (case aF => exact (fun _ _ => trivial)); (case aO => exact (by exact Kd.R_nw HO183.out)); (case aS => exact (below_size (by exact bel0))); (case aL => have := LMc5.out; omega); intro v185 w6 ho hb hg hat; rw [← Ny184.out] at ho; have n_ := an (hb) (an (ho) (trivial)); clear HB HO183; obtain ⟨HB, HO186, -⟩ := n_; clear ho hb hg hat; obtain ⟨Ao7, co7, eo7⟩ := Kd.R_slice HO186.out; subst eo7))
  go_loopg [1, 7] k (fun kq v1 v7 w' => ∃ (x1_1 : Int) (x6_1 : List Int) (x7_1 : Int), v1 = .int .i64 x1_1 ∧ v7 = .int .i64 x7_1 ∧ Aside0 (spec_l11shuffle.l0 kq x1_1 x6_1 x7_1 = some (r1, r2)) ∧ Aside0 (kq ≤ k) ∧ Aside0 (Kd.R (Kd.int .i64) 3 w' w.heap.size (fun _ => True) (.slice Ao7 y184.length co7) x6_1) ∧ Aside0 (Below w.heap.size w w'))
  case atStart => exact ⟨(a1), (y184), (wrap64 ((y184.length : Int) - 1)), (by first | rfl | (simp; done) | (simp [*]; done)), (by first | rfl | (simp; done) | (simp [*]; done)), H', ⟨Nat.le_refl _⟩, ⟨by exact Kd.R_nw HO186.out⟩, ⟨by exact bel0⟩⟩
  case round =>
   clear H'
   try clear c1; try clear p2; try clear c5; try clear p6
   obtain ⟨x1_1, x6_1, x7_1, rfl, rfl, HA, HK1, HO_6, HB⟩ := hrel
   have hl6_1 := (Kd.R_reads' HO_6.out).1
   rw [hl6_1] at HO_6
   (try simp only [hl6_1])
   cases gk with
   | zero => exact absurd HA.out (by simp [spec_l11shuffle.l0])
   | succ k1 =>
    have H := HA.out; clear HA
    simp only [spec_l11shuffle.l0] at H
    by_cases c8 : x7_1 > 0
    ·rw [if_pos c8] at H; have c8b0 : decide (0 < x7_1) = true := decide_eq_true c8; clear c8; (try simp only [c8b0]); replace H := Option.bind_eq_some_iff.mp H; obtain ⟨t187, A90, H⟩ := H; have A9 := Aside0.mk A90; clear A90
     replace H := Aside0.mk H
     go_wp2_with (first | ((with_reducible refine gate_callee (f := 185) rfl ?_); refine goesL_ (some 21) rfl rfl Try.func185 (by kernel_rfl) rfl #[.int .i64 x1_1] rfl (by (try simp only [List.map_toArray, List.map_cons, List.map_nil]); first | done | rfl | (simp only [List.length_drop, List.length_take]; rfl)) ?_; (with_reducible refine (spec_Mix.calls x1_1 t187 _ A9.out).mono ?_); rintro e w' ⟨rfl, ⟨nd, rfl⟩⟩; refine ⟨_, rfl, ?_⟩; (try (rw [drewN_self wr]; generalize hq_ : World.drewN wr _ = wr; have n0_ : Aside0 (Kd.R (Kd.int .i64) 3 wr w.heap.size (fun _ => True) (.slice Ao7 x6_1.length co7) x6_1) := ⟨by rw [← hq_]; exact (by exact Kd.R_nw HO_6.out)⟩; have n1_ : Aside0 (Below w.heap.size w wr) := ⟨by rw [← hq_]; exact (by exact bel0)⟩; clear HO_6 HB hq_; have HO_6 := n0_; have HB := n1_; clear n0_ n1_)); refine Stop.out ?_))
     refine Stop.mk ?_
     replace H := H.out
     by_cases c10 : (wrap64 (x7_1 + 1)) = 0
     ·rw [if_pos c10] at H
      exact absurd H (by simp)
     ·rw [if_neg c10] at H; have c10b0 : ((wrap64 (x7_1 + 1)) == 0) = false := beq_eq_false_iff_ne.mpr c10; have c10b1 : ((wrap64 (x7_1 + 1)) != 0) = true := bne_iff_ne.mpr c10
      by_cases c11 : 0 ≤ x7_1
      ·rw [if_pos c11] at H; have c11b0 : decide (0 ≤ x7_1) = true := decide_eq_true c11; clear c11; (try simp only [c11b0])
       by_cases c12 : x7_1 < (x6_1.length : Int)
       ·rw [if_pos c12] at H
        have c12b0 : decide (x7_1 < (x6_1.length : Int)) = true := decide_eq_true c12
        clear c12; (try simp only [c12b0])
        obtain ⟨ji13, hji13⟩ : ∃ j_ : Int, (Int.tmod t187 (wrap64 (x7_1 + 1))) = j_ := ⟨_, rfl⟩
        replace H : (if 0 ≤ (ji13) then (if (ji13) < (x6_1.length : Int) then (spec_l11shuffle.l0 k1 t187 ((x6_1.set (x7_1 : Int).toNat (rd x6_1 (ji13))).set ((ji13) : Int).toNat (rd x6_1 x7_1)) (wrap64 (x7_1 - 1))) else (none)) else (none)) = some (r1, r2) := by first | (rw [hji13] at H; exact H) | (simp only [hji13] at H ⊢; exact H)
        by_cases c14 : 0 ≤ (ji13)
        ·rw [if_pos c14] at H; have c14b0 : decide (0 ≤ (ji13)) = true := decide_eq_true c14; clear c14; (try simp only [c14b0])
         by_cases c15 : (ji13) < (x6_1.length : Int)
         ·rw [if_pos c15] at H
          have c15b0 : decide ((ji13) < (x6_1.length : Int)) = true := decide_eq_true c15
          clear c15; (try simp only [c15b0])
          obtain ⟨y190, hy190⟩ : ∃ y_ : List Int, y_ = (x6_1.set (x7_1 : Int).toNat (rd x6_1 (ji13))) := ⟨_, rfl⟩
          replace H : (spec_l11shuffle.l0 k1 t187 (y190.set ((ji13) : Int).toNat (rd x6_1 x7_1)) (wrap64 (x7_1 - 1))) = some (r1, r2) := by first | (rw [hy190]; with_reducible exact H) | (have H2_ := (Option.bind_some _ _).symm.trans H; rw [hy190]; with_reducible exact H2_) | (have H2_ := (Option.bind_some _ _).symm.trans H; with_reducible exact H2_) | with_reducible exact H | (rw [hy190]; exact H) | exact H
          have Ny190 := Aside0.mk hy190; clear hy190
          obtain ⟨y191, hy191⟩ : ∃ y_ : List Int, y_ = (y190.set ((ji13) : Int).toNat (rd x6_1 x7_1)) := ⟨_, rfl⟩
          replace H : (spec_l11shuffle.l0 k1 t187 y191 (wrap64 (x7_1 - 1))) = some (r1, r2) := by first | (rw [hy191]; with_reducible exact H) | (have H2_ := (Option.bind_some _ _).symm.trans H; rw [hy191]; with_reducible exact H2_) | (have H2_ := (Option.bind_some _ _).symm.trans H; with_reducible exact H2_) | with_reducible exact H | (rw [hy191]; exact H) | exact H
          have Ny191 := Aside0.mk hy191; clear hy191
          have H' := Aside0.mk H
          clear H
          have p188 : 0 ≤ (x7_1 : Int) := of_decide_eq_true (by first | (with_reducible assumption) | assumption)
          have q188 : x7_1 < (x6_1.length : Int) := of_decide_eq_true (by first | (with_reducible assumption) | assumption)
          obtain ⟨ad188, e188, hx188_0⟩ := Kd.at_int (Kd.R_reads' HO_6.out).2.2 x7_1 p188 q188
          cases e188
          replace p188 := eq_true p188
          replace q188 := eq_true q188
          have p189 : 0 ≤ ((ji13) : Int) := of_decide_eq_true (by first | (with_reducible assumption) | assumption)
          have q189 : (ji13) < (x6_1.length : Int) := of_decide_eq_true (by first | (with_reducible assumption) | assumption)
          obtain ⟨ad189, e189, hx189_0⟩ := Kd.at_int (Kd.R_reads' HO_6.out).2.2 (ji13) p189 q189
          obtain rfl : ad188 = ad189 := (by injection e189)
          replace p189 := eq_true p189
          replace q189 := eq_true q189
          have p16 : 0 ≤ (x7_1 : Int) := of_decide_eq_true (by first | (with_reducible assumption) | assumption)
          have q16 : (x7_1 : Int) < ((x6_1.length : Int) : Int) := of_decide_eq_true (by first | (with_reducible assumption) | assumption)
          obtain ⟨go16, co16, eo16, gb16, gl16, cl16, HG16⟩ := Kd.R_form HO_6.out (by omega)
          (first | cases eo16 | (injection eo16 with ea_ en_ ec_; (first | subst ea_ | (injection ea_ with ea_; subst ea_)); subst ec_; clear en_))
          have GB16 := Aside0.mk gb16; have GG16 := Aside0.mk HG16; clear gb16 gl16 HG16
          (first | simp only [add_plain] at hx188_0 | skip)
          (first | simp only [add_plain] at hx189_0 | skip)
          obtain ⟨hx16_0, hf16_0⟩ := Kd.R_celln 0 HO_6.out (x7_1 : Int) p16 q16
          replace p16 := eq_true p16
          replace q16 := eq_true q16
          have HP18 := Kd.R_putg HO_6.out (x7_1 : Int) (rd x6_1 (ji13))
          go_wp2_with (first | ((with_reducible refine gate_store (t := 3) (p := 36) rfl ?_); refine store_event (t := 3) (p := 36) (v := ?vo_w19) (w1 := (wr.setCell ⟨go16, (x7_1 : Int).toNat, none⟩ (.int .i64 (rd x6_1 (ji13))))) ?hg ?ho ?hn ?hr ?_; (case ho => rfl); (case hg => rfl); (case hn => rfl); (case hr => first | (go_simp; done) | (go_simp; rfl)); intro w19 hw; have hg : wr.grownBy w19 (some go16) := (by rw [hw]; exact HP18.2); have hp_ : Kd.R (Kd.int .i64) 3 w19 w.heap.size (fun _ => True) (.slice (some ⟨go16, 0, none⟩) x6_1.length co7) y190 := (by rw [hw, Ny190.out]; exact HP18.1); clear HP18; have n_ := an (hp_) (an ((by rw [hw]; exact below_set (HB.out) GB16.out : Below w.heap.size w w19)) (trivial)); clear HO_6 HB; obtain ⟨HO_6, HB, -⟩ := n_; clear hg hw hp_; have p17 : 0 ≤ ((ji13) : Int) := of_decide_eq_true (by first | (with_reducible assumption) | assumption); have q17 : ((ji13) : Int) < ((x6_1.length : Int) : Int) := of_decide_eq_true (by first | (with_reducible assumption) | assumption); obtain ⟨hx17_0, hf17_0⟩ := Kd.R_celln 0 HO_6.out ((ji13) : Int) p17 q17; replace p17 := eq_true p17; replace q17 := eq_true q17; obtain ⟨hy20_, hz20_⟩ := Kd.R_celln 0 HO_6.out ((ji13) : Int) (of_decide_eq_true (by first | (with_reducible assumption) | assumption)) (of_decide_eq_true (by first | (with_reducible assumption) | assumption)); have HP20 := Kd.R_putg HO_6.out ((ji13) : Int) (rd x6_1 x7_1)) | ((with_reducible refine gate_store (t := 3) (p := 40) rfl ?_); refine store_event (t := 3) (p := 40) (v := ?vo_w21) (w1 := (w19.setCell ⟨go16, ((ji13) : Int).toNat, none⟩ (.int .i64 (rd x6_1 x7_1)))) ?hg ?ho ?hn ?hr ?_; (case ho => rfl); (case hg => rfl); (case hn => rfl); (case hr => first | (go_simp; done) | (go_simp; rfl)); intro w21 hw; have hg : w19.grownBy w21 (some go16) := (by rw [hw]; exact HP20.2); have hp_ : Kd.R (Kd.int .i64) 3 w21 w.heap.size (fun _ => True) (.slice (some ⟨go16, 0, none⟩) x6_1.length co7) y191 := (by rw [hw, Ny191.out]; exact HP20.1); clear HP20; have n_ := an (hp_) (an ((by rw [hw]; exact below_set (HB.out) GB16.out : Below w.heap.size w w21)) (trivial)); clear HO_6 HB; obtain ⟨HO_6, HB, -⟩ := n_; clear hg hw hp_))
          (try simp only [← hl6_1])
          go_roundg k1
          case measure => have := HK1.out; omega
          case rel => exact ⟨(t187), (y191), (wrap64 (x7_1 - 1)), (by first | rfl | (simp; done) | (simp [*]; done)), (by first | rfl | (simp; done) | (simp [*]; done)), H', ⟨by have := HK1.out; omega⟩, ⟨by (try simp only [hl6_1]); exact Kd.R_nw HO_6.out⟩, ⟨by exact bel0⟩⟩
         ·rw [if_neg c15] at H
          exact absurd H (by simp)
        ·rw [if_neg c14] at H
         exact absurd H (by simp)
       ·rw [if_neg c12] at H
        exact absurd H (by simp)
      ·rw [if_neg c11] at H
       exact absurd H (by simp)
    ·rw [if_neg c8] at H; have c8b0 : decide (0 < x7_1) = false := decide_eq_false c8; clear c8; (try simp only [c8b0]); simp only [Option.some.injEq, Prod.mk.injEq] at H; obtain ⟨rfl, rfl⟩ := H
     go_wp2
     go_ret2
     exact ⟨_, by first | rfl | (simp [errW_none, errW_some] <;> rfl) | (simp [*, errW_none, errW_some] <;> rfl), by exact Kd.R_nw HO_6.out, by exact bel0⟩
 ·rw [if_neg c5] at H
  exact absurd H (by simp)

/-! ### spec_l11helpers: function 120 -/
def spec_l11helpers.l0 : Nat → Int → List Int → List Int → Int → List Int → Int → Int → Int → Int → Int → Option (List Int × List Int × Int × Int × Int × Int × Int)
  | 0, _, _, _, _, _, _, _, _, _, _ => none
  | k + 1, x2, x7, x8, x9, x1000, x1001, x1002, x1003, x1004, x1005 => if x9 < (x7.length : Int) then (if 0 ≤ x9 then (if (rd x7 x9) = x1004 then (spec_l11helpers.l0 k x2 x7 x8 (wrap64 (x9 + 1)) x1000 x1001 x1002 x1003 x1004 x1005) else (if x8.length < 17592186044416 then (spec_l11helpers.l0 k x2 x7 (x8 ++ [rd x7 x9]) (wrap64 (x9 + 1)) x1000 x1001 x1002 x1003 x1004 x1005) else (none))) else (none)) else ((spec_l11shuffle.f k x8 x1002).bind fun bt201 => (if (bt201.1.length : Int) > x2 then (if 0 ≤ x2 then (if x2 ≤ (bt201.1.length : Int) then (some ((bt201.1.take (x2 : Int).toNat), x1000, x1001, bt201.2, x1003, x1004, x1005)) else (none)) else (none)) else (some (bt201.1, x1000, x1001, bt201.2, x1003, x1004, x1005))))
def spec_l11helpers.f (k : Nat) (l0_0 : List Int) (a0_1 : Int) (a0_2 : Int) (a0_3 : Int) (a0_4 : Int) (a0_5 : Int) (a1_0 : Int) (l1_1 : List (S82)) (a2 : Int) : Option (List Int × List Int × Int × Int × Int × Int × Int) := (spec_l11others.f k a1_0 l1_1).bind fun t193 => (spec_l11helpers.l0 k a2 t193 ([] : List Int) 0 l0_0 a0_1 a0_2 a0_3 a0_4 a0_5)
theorem spec_l11helpers.mono_l : ∀ k, (∀ y0 y1 y2 y3 y4 y5 y6 y7 y8 y9, LeO (spec_l11helpers.l0 k y0 y1 y2 y3 y4 y5 y6 y7 y8 y9) (spec_l11helpers.l0 (k + 1) y0 y1 y2 y3 y4 y5 y6 y7 y8 y9))
 | 0 => fun _ _ _ _ _ _ _ _ _ _ r h => by simp [spec_l11helpers.l0] at h
 | k + 1 => by
  have ih0 := spec_l11helpers.mono_l k
  ·intro y0 y1 y2 y3 y4 y5 y6 y7 y8 y9
   unfold spec_l11helpers.l0
   repeat' first
   | (with_reducible exact ih0 _ _ _ _ _ _ _ _ _ _)
   | (with_reducible exact spec_l11others.mono _ _ _)
   | (with_reducible exact spec_l11shuffle.mono _ _ _)
   | (with_reducible exact LeO.refl _)
   | (with_reducible exact LeO.none _)
   | (with_reducible refine LeO.ite ?_ ?_)
   | (with_reducible refine LeO.bind ?_ (fun _ => ?_))
   | exact ih0 _ _ _ _ _ _ _ _ _ _
   | exact spec_l11others.mono _ _ _
   | exact spec_l11shuffle.mono _ _ _
   | exact LeO.none _
   | refine LeO.ite ?_ ?_
   | refine LeO.bind ?_ (fun _ => ?_)
theorem spec_l11helpers.mono : ∀ a0 a1 a2 a3 a4 a5 a6 a7 a8 k, LeO (spec_l11helpers.f k a0 a1 a2 a3 a4 a5 a6 a7 a8) (spec_l11helpers.f (k + 1) a0 a1 a2 a3 a4 a5 a6 a7 a8) := by
 intro a0 a1 a2 a3 a4 a5 a6 a7 a8 k
 have ih0 := spec_l11helpers.mono_l k
 unfold spec_l11helpers.f
 repeat' first
   | (with_reducible exact ih0 _ _ _ _ _ _ _ _ _ _)
   | (with_reducible exact spec_l11others.mono _ _ _)
   | (with_reducible exact spec_l11shuffle.mono _ _ _)
   | (with_reducible exact LeO.refl _)
   | (with_reducible exact LeO.none _)
   | (with_reducible refine LeO.ite ?_ ?_)
   | (with_reducible refine LeO.bind ?_ (fun _ => ?_))
   | exact ih0 _ _ _ _ _ _ _ _ _ _
   | exact spec_l11others.mono _ _ _
   | exact spec_l11shuffle.mono _ _ _
   | exact LeO.none _
   | refine LeO.ite ?_ ?_
   | refine LeO.bind ?_ (fun _ => ?_)
set_option maxHeartbeats 8000000 in
set_option maxRecDepth 100000 in
theorem spec_l11helpers.calls (k : Nat) (g : Nat) (P0_0_ : Nat → Prop) (u9000_ : Value) (l0_0 : List Int) (a0_1 : Int) (a0_2 : Int) (a0_3 : Int) (a0_4 : Int) (a0_5 : Int) (a1_0 : Int) (A1_1 : Option Addr) (c1_1 : Nat) (l1_1 : List (S82)) (a2 : Int) (r1 : List Int) (r2 : List Int) (r3 : Int) (r4 : Int) (r5 : Int) (r6 : Int) (r7 : Int) (w0 w : World) (hB : Below w0.heap.size w0 w) (hbx : w.heap[g]? = some (.cells #[u9000_, .int .i64 a0_1, .int .i64 a0_2, .int .i64 a0_3, .int .i64 a0_4, .int .i64 a0_5] 90 (0, 0))) (hgx : w0.heap.size ≤ g) (ho0_0 : Kd.R (Kd.int .i64) 3 w w0.heap.size P0_0_ u9000_ l0_0) (hr1_1 : ∀ W_, Kept w W_ (fun k_ => (P0_0_ k_) ∨ k_ = g) → Kd.C k82 W_ A1_1 l1_1.length l1_1) (hc1_1 : l1_1.length ≤ c1_1) (h : spec_l11helpers.f k l0_0 a0_1 a0_2 a0_3 a0_4 a0_5 a1_0 l1_1 a2 = some (r1, r2, r3, r4, r5, r6, r7)) :
  Calls Try.prog 120 #[.pointer (some ⟨g, 0, none⟩), .agg #[.int .i64 a1_0, .slice A1_1 l1_1.length c1_1], .int .i64 a2] w fun e w' => ∃ v0_ : Value, e = .returned (v0_) ∧ ∃ v1_ : Value, Kd.R (Kd.int .i64) 3 w' w0.heap.size (fun k_ => (P0_0_ k_ ∨ w.heap.size ≤ k_) ∧ some k_ ≠ (v1_ : Value).ownBlock) v0_ r1 ∧ Kd.R (Kd.int .i64) 3 w' w0.heap.size (fun k_ => (P0_0_ k_ ∨ w.heap.size ≤ k_) ∧ some k_ ≠ (v0_ : Value).ownBlock) v1_ r2 ∧ w'.heap[g]? = some (.cells #[v1_, .int .i64 r3, .int .i64 r4, .int .i64 r5, .int .i64 r6, .int .i64 r7] 90 (0, 0)) ∧ Below w0.heap.size w0 w' ∧ Kept w w' (fun k_ => (P0_0_ k_) ∨ k_ = g) := by
 have hu41 := Try.underlying41
 have BK0 := Aside0.mk hbx; have GE0 := Aside0.mk hgx; clear hbx hgx
 have HO0_0 := Aside0.mk (show Kd.R (Kd.int .i64) 3 w w0.heap.size (fun k_ => (P0_0_ k_ ∨ w.heap.size ≤ k_)) u9000_ l0_0 from Kd.R_mono ho0_0 (fun k_ hk => (.inl hk)))
 have HR1_1 := Aside0.mk hr1_1; have HC1_1 := Aside0.mk hc1_1; clear hr1_1 hc1_1
 have HK := Aside0.mk (Kept.refl w (fun k_ => (P0_0_ k_) ∨ k_ = g))
 have HW0 := Aside0.mk hB.size
 have HB := Aside0.mk hB; clear hB
 have H : ((spec_l11others.f k a1_0 l1_1).bind fun t193 => (spec_l11helpers.l0 k a2 t193 ([] : List Int) 0 l0_0 a0_1 a0_2 a0_3 a0_4 a0_5)) = some (r1, r2, r3, r4, r5, r6, r7) := h
 clear h; replace H := Option.bind_eq_some_iff.mp H; obtain ⟨t193, A40, H⟩ := H; have A4 := Aside0.mk A40; clear A40
 have H' := Aside0.mk H
 clear H; go_enter Try.func120, Try.ntmps120
 go_wp2_with (first | ((with_reducible refine gate_dst (N := 4) rfl ?_); refine box_event ?hg (N := 4) ?hd (cs := #[.int .i64 a1_0, .slice A1_1 l1_1.length c1_1]) (t := 41) ?hr ?_; (case hd => rfl); (case hg => rfl); (case hr => first | (go_simp; done) | (go_simp; rfl)); intro gb192 hg w5 hbox hb; have n_ := an (Kd.R_below (by exact Kd.R_nw HO0_0.out) hb) (an (blk_below (blk_nw BK0.out) hb) (an (Kept.below (S := (fun k_ => (P0_0_ k_) ∨ k_ = g)) (by exact kpt) hb) (an (below_step (by exact bel0) hb) (an (hbox) (an ((by rw [hg]; exact (by first | exact HK.out.1 | exact (show Kept w _ (fun k_ => (P0_0_ k_) ∨ k_ = g) from by exact kpt).1) : w.heap.size ≤ gb192)) (an ((by rw [hg]; exact (below_size (by exact bel0)) : w0.heap.size ≤ gb192)) (an ((by rw [hg]; exact Nat.ne_of_lt (blk_lt (blk_nw BK0.out)) : g ≠ gb192)) (an ((by rw [hg]; exact Nat.ne_of_gt (blk_lt (blk_nw BK0.out)) : gb192 ≠ g)) (trivial))))))))); clear HO0_0 BK0 HK HB; obtain ⟨HO0_0, BK0, HK, HB, BK192, GW192, GE192, NB0_192, NB192_0, -⟩ := n_; clear hb hbox hg; have hnb6 := NB192_0.out; have hnc6 := NB0_192.out; obtain ⟨hcz7_0, hcz7_1⟩ := blkz2 BK192.out; have hfz7_0 := blkf BK192.out) | (go_at_call 156; (with_reducible refine (spec_l11others.calls k a1_0 _ _ l1_1 t193 _ ?side1 ?side2 A4.out).mono ?_); (case side1 => exact Kd.C_kept_now HR1_1.out (by exact kpt)); (case side2 => exact HC1_1.out); rintro e w8 ⟨v194, rfl, ho0, hb⟩; have n_ := an (Kd.R_elder' (by exact Kd.R_nw HO0_0.out) (Kd.R_base ho0) hb) (an (Kd.R_lower (Kd.R_new' (Kd.R_newM (M := fun k_ => (P0_0_ k_ ∨ w.heap.size ≤ k_)) ho0 (by first | exact HK.out.1 | exact (show Kept w _ (fun k_ => (P0_0_ k_) ∨ k_ = g) from by exact kpt).1) (fun k_ h_ => .inr h_)) (Kd.R_lt (by exact Kd.R_nw HO0_0.out))) (below_size (by exact bel0))) (an (blk_below (blk_nw BK0.out) hb) (an (blk_below (blk_nw BK192.out) hb) (an (Kept.below (S := (fun k_ => (P0_0_ k_) ∨ k_ = g)) (by exact kpt) hb) (an (below_step (by exact bel0) hb) (trivial)))))); clear HO0_0 BK0 BK192 HK HB; obtain ⟨HO0_0, HO195, BK0, BK192, HK, HB, -⟩ := n_; (try clear hb); (try clear hb2); (try clear hk); (try clear hi); (try clear ho0)))
 repeat (go_quiet (fail); try go_wp2_with (first | ((with_reducible refine gate_dst (N := 4) rfl ?_); refine box_event ?hg (N := 4) ?hd (cs := #[.int .i64 a1_0, .slice A1_1 l1_1.length c1_1]) (t := 41) ?hr ?_; (case hd => rfl); (case hg => rfl); (case hr => first | (go_simp; done) | (go_simp; rfl)); intro gb192 hg w5 hbox hb; have n_ := an (Kd.R_below (by exact Kd.R_nw HO0_0.out) hb) (an (blk_below (blk_nw BK0.out) hb) (an (Kept.below (S := (fun k_ => (P0_0_ k_) ∨ k_ = g)) (by exact kpt) hb) (an (below_step (by exact bel0) hb) (an (hbox) (an ((by rw [hg]; exact (by first | exact HK.out.1 | exact (show Kept w _ (fun k_ => (P0_0_ k_) ∨ k_ = g) from by exact kpt).1) : w.heap.size ≤ gb192)) (an ((by rw [hg]; exact (below_size (by exact bel0)) : w0.heap.size ≤ gb192)) (an ((by rw [hg]; exact Nat.ne_of_lt (blk_lt (blk_nw BK0.out)) : g ≠ gb192)) (an ((by rw [hg]; exact Nat.ne_of_gt (blk_lt (blk_nw BK0.out)) : gb192 ≠ g)) (trivial))))))))); clear HO0_0 BK0 HK HB; obtain ⟨HO0_0, BK0, HK, HB, BK192, GW192, GE192, NB0_192, NB192_0, -⟩ := n_; clear hb hbox hg; have hnb6 := NB192_0.out; have hnc6 := NB0_192.out; obtain ⟨hcz7_0, hcz7_1⟩ := blkz2 BK192.out; have hfz7_0 := blkf BK192.out) | (go_at_call 156; (with_reducible refine (spec_l11others.calls k a1_0 _ _ l1_1 t193 _ ?side1 ?side2 A4.out).mono ?_); (case side1 => exact Kd.C_kept_now HR1_1.out (by exact kpt)); (case side2 => exact HC1_1.out); rintro e w8 ⟨v194, rfl, ho0, hb⟩; have n_ := an (Kd.R_elder' (by exact Kd.R_nw HO0_0.out) (Kd.R_base ho0) hb) (an (Kd.R_lower (Kd.R_new' (Kd.R_newM (M := fun k_ => (P0_0_ k_ ∨ w.heap.size ≤ k_)) ho0 (by first | exact HK.out.1 | exact (show Kept w _ (fun k_ => (P0_0_ k_) ∨ k_ = g) from by exact kpt).1) (fun k_ h_ => .inr h_)) (Kd.R_lt (by exact Kd.R_nw HO0_0.out))) (below_size (by exact bel0))) (an (blk_below (blk_nw BK0.out) hb) (an (blk_below (blk_nw BK192.out) hb) (an (Kept.below (S := (fun k_ => (P0_0_ k_) ∨ k_ = g)) (by exact kpt) hb) (an (below_step (by exact bel0) hb) (trivial)))))); clear HO0_0 BK0 BK192 HK HB; obtain ⟨HO0_0, HO195, BK0, BK192, HK, HB, -⟩ := n_; (try clear hb); (try clear hb2); (try clear hk); (try clear hi); (try clear ho0))))
 go_loopg [8, 9] k (fun kq v8 v9 w' => ∃ (x8_1 : List Int) (x9_1 : Int), v9 = .int .i64 x9_1 ∧ Aside0 (spec_l11helpers.l0 kq a2 t193 x8_1 x9_1 l0_0 a0_1 a0_2 a0_3 a0_4 a0_5 = some (r1, r2, r3, r4, r5, r6, r7)) ∧ Aside0 (kq ≤ k) ∧ Aside0 (Kd.R (Kd.int .i64) 3 w' w0.heap.size (fun k_ => (P0_0_ k_ ∨ w.heap.size ≤ k_) ∧ some k_ ≠ (v8 : Value).ownBlock ∧ some k_ ≠ (u9000_ : Value).ownBlock) v194 t193) ∧ Aside0 (Kd.R (Kd.int .i64) 3 w' w0.heap.size (fun k_ => (P0_0_ k_ ∨ w.heap.size ≤ k_) ∧ some k_ ≠ (v194 : Value).ownBlock ∧ some k_ ≠ (u9000_ : Value).ownBlock) v8 x8_1) ∧ Aside0 (Kd.R (Kd.int .i64) 3 w' w0.heap.size (fun k_ => (P0_0_ k_ ∨ w.heap.size ≤ k_) ∧ some k_ ≠ (v194 : Value).ownBlock ∧ some k_ ≠ (v8 : Value).ownBlock) u9000_ l0_0) ∧ Aside0 (w'.heap[g]? = some (.cells #[u9000_, .int .i64 a0_1, .int .i64 a0_2, .int .i64 a0_3, .int .i64 a0_4, .int .i64 a0_5] 90 (0, 0))) ∧ Aside0 (w'.heap[gb192]? = some (.cells #[.int .i64 a1_0, (.slice A1_1 l1_1.length c1_1)] 41 (0, 0))) ∧ Aside0 (Kept w w' (fun k_ => (P0_0_ k_) ∨ k_ = g)) ∧ Aside0 (Below w0.heap.size w0 w'))
 case atStart => exact ⟨(([] : List Int)), (0), (by first | rfl | (simp; done) | (simp [*]; done)), H', ⟨Nat.le_refl _⟩, ⟨by exact Kd.R_nw (Kd.R_mono HO195.out (fun _ hk => ⟨hk.1.1, ⟨(by simp [Value.ownBlock]), hk.2⟩⟩))⟩, ⟨by first | exact Kd.R_nil _ _ _ _ _ | exact Kd.N_nil _ _ _ _ _ | exact Kd.V_nil _ _ _ _ _ | exact Kd.Q_nil _ _ _ _ _ | exact Kd.S_nil _ _ _ _ _⟩, ⟨by exact Kd.R_nw (Kd.R_mono HO0_0.out (fun _ hk => ⟨hk.1, ⟨hk.2, (by simp [Value.ownBlock])⟩⟩))⟩, ⟨by exact blk_nw BK0.out⟩, ⟨by exact blk_nw BK192.out⟩, ⟨by exact kpt⟩, ⟨by exact bel0⟩⟩
 case round =>
  clear H'
  try clear c1; try clear p2; try clear c6; try clear hcz7_0; try clear hcz7_1; try clear hfz7_0; try clear hfz7_1
  obtain ⟨x8_1, x9_1, rfl, HA, HK1, HO_7, HO_8, HO_1000, BK0, BK192, HK, HB⟩ := hrel
  cases gk with
  | zero => exact absurd HA.out (by simp [spec_l11helpers.l0])
  | succ k1 =>
   have H := HA.out; clear HA
   simp only [spec_l11helpers.l0] at H
   by_cases c9 : x9_1 < (t193.length : Int)
   ·rw [if_pos c9] at H
    have c9b0 : decide (x9_1 < (t193.length : Int)) = true := decide_eq_true c9
    clear c9; (try simp only [c9b0])
    by_cases c10 : 0 ≤ x9_1
    ·rw [if_pos c10] at H; have c10b0 : decide (0 ≤ x9_1) = true := decide_eq_true c10; clear c10; (try simp only [c10b0])
     by_cases c11 : (rd t193 x9_1) = a0_4
     ·rw [if_pos c11] at H; have c11b0 : ((rd t193 x9_1) == a0_4) = true := beq_iff_eq.mpr c11; have c11b1 : ((rd t193 x9_1) != a0_4) = false := bne_eq_false_iff_eq.mpr c11; clear c11
      have H' := Aside0.mk H
      clear H
      obtain ⟨Ao12, co12, eo12⟩ := Kd.R_slice HO_7.out
      subst eo12
      have p196 : 0 ≤ (x9_1 : Int) := of_decide_eq_true (by first | (with_reducible assumption) | assumption)
      have q196 : x9_1 < (t193.length : Int) := of_decide_eq_true (by first | (with_reducible assumption) | assumption)
      obtain ⟨ad196, e196, hx196_0⟩ := Kd.at_int (Kd.R_reads' HO_7.out).2.2 x9_1 p196 q196
      cases e196
      replace p196 := eq_true p196
      replace q196 := eq_true q196
      have hnb13 := NB0_192.out; have hnc13 := NB192_0.out; obtain ⟨hcz14_0, hcz14_1, hcz14_2, hcz14_3, hcz14_4, hcz14_5⟩ := blkz6 BK0.out; have hfz14_0 := blkf BK0.out
      go_wp2
      repeat (go_quiet (fail); try go_wp2)
      go_roundg k1
      case measure => have := HK1.out; omega
      case rel => exact ⟨(x8_1), (wrap64 (x9_1 + 1)), (by first | rfl | (simp; done) | (simp [*]; done)), H', ⟨by have := HK1.out; omega⟩, ⟨by exact Kd.R_nw HO_7.out⟩, ⟨by exact Kd.R_nw HO_8.out⟩, ⟨by exact Kd.R_nw HO_1000.out⟩, ⟨by exact blk_nw BK0.out⟩, ⟨by exact blk_nw BK192.out⟩, ⟨by exact kpt⟩, ⟨by exact bel0⟩⟩
     ·rw [if_neg c11] at H; have c11b0 : ((rd t193 x9_1) == a0_4) = false := beq_eq_false_iff_ne.mpr c11; have c11b1 : ((rd t193 x9_1) != a0_4) = true := bne_iff_ne.mpr c11
      by_cases c15 : x8_1.length < 17592186044416
      ·rw [if_pos c15] at H; have LMc15 := Aside0.mk c15; clear c15
       obtain ⟨y198, hy198⟩ : ∃ y_ : List Int, y_ = (x8_1 ++ [rd t193 x9_1]) := ⟨_, rfl⟩
       replace H : (spec_l11helpers.l0 k1 a2 t193 y198 (wrap64 (x9_1 + 1)) l0_0 a0_1 a0_2 a0_3 a0_4 a0_5) = some (r1, r2, r3, r4, r5, r6, r7) := by first | (rw [hy198]; with_reducible exact H) | (have H2_ := (Option.bind_some _ _).symm.trans H; rw [hy198]; with_reducible exact H2_) | (have H2_ := (Option.bind_some _ _).symm.trans H; with_reducible exact H2_) | with_reducible exact H | (rw [hy198]; exact H) | exact H
       have Ny198 := Aside0.mk hy198; clear hy198
       have H' := Aside0.mk H
       clear H
       obtain ⟨Ao16, co16, eo16⟩ := Kd.R_slice HO_7.out
       subst eo16
       have p196 : 0 ≤ (x9_1 : Int) := of_decide_eq_true (by first | (with_reducible assumption) | assumption)
       have q196 : x9_1 < (t193.length : Int) := of_decide_eq_true (by first | (with_reducible assumption) | assumption)
       obtain ⟨ad196, e196, hx196_0⟩ := Kd.at_int (Kd.R_reads' HO_7.out).2.2 x9_1 p196 q196
       cases e196
       replace p196 := eq_true p196
       replace q196 := eq_true q196
       have hnb17 := NB0_192.out; have hnc17 := NB192_0.out; obtain ⟨hcz18_0, hcz18_1, hcz18_2, hcz18_3, hcz18_4, hcz18_5⟩ := blkz6 BK0.out; have hfz18_0 := blkf BK0.out
       have p197 : 0 ≤ (x9_1 : Int) := of_decide_eq_true (by first | (with_reducible assumption) | assumption)
       have q197 : x9_1 < (t193.length : Int) := of_decide_eq_true (by first | (with_reducible assumption) | assumption)
       obtain ⟨ad197, e197, hx197_0⟩ := Kd.at_int (Kd.R_reads' HO_7.out).2.2 x9_1 p197 q197
       obtain rfl : ad196 = ad197 := (by injection e197)
       replace p197 := eq_true p197
       replace q197 := eq_true q197
       go_wp2_with (first | ((with_reducible refine gate_builtin (b := .append) (xs := #[.tmp 27, .tmp 32]) rfl ?_); at_builtin; refine Kd.R_append (Kd.int .i64) (w0 := w0) w0.heap.size rfl (.tmp 27) (.tmp 32) 63 3 (.int .i64 0) 8 rfl Try.underlying63 info3 rfl (by decide) (by omega) u8 x8_1 (rd t193 x9_1) [.int .i64 (rd t193 x9_1)] (fun k_ => (P0_0_ k_ ∨ w.heap.size ≤ k_) ∧ some k_ ≠ (.slice (some ad196) t193.length co16 : Value).ownBlock ∧ some k_ ≠ (u9000_ : Value).ownBlock) (fun _ => False) rfl rfl ?aP (fun _ hk => hk.elim) ?aF ?aO ?aB ?aS ?aL ?_; (case aP => exact rfl); (case aB => exact (by exact bel0)); (case aF => exact (fun k_ hk => ⟨(.inr (Nat.le_trans (by first | exact HK.out.1 | exact (show Kept w _ (fun k_ => (P0_0_ k_) ∨ k_ = g) from by exact kpt).1) hk)), Kd.fresh' (Kd.R_lt (by exact Kd.R_nw HO_7.out)) k_ hk, Kd.fresh' (Kd.R_lt (by exact Kd.R_nw HO_1000.out)) k_ hk⟩)); (case aO => exact (by exact Kd.R_nw HO_8.out)); (case aS => exact (below_size (by exact bel0))); (case aL => have := LMc15.out; omega); intro v199 w19 ho hb hg hat; rw [← Ny198.out] at ho; have n_ := an (Kd.R_after (ok := (fun k_ => (P0_0_ k_ ∨ w.heap.size ≤ k_) ∧ some k_ ≠ (u9000_ : Value).ownBlock)) (by exact Kd.R_nw (Kd.R_mono HO_7.out (fun _ hk => ⟨⟨hk.1, hk.2.2⟩, hk.2.1⟩))) hg hat) (an (Kd.R_after (ok := (fun k_ => (P0_0_ k_ ∨ w.heap.size ≤ k_) ∧ some k_ ≠ (.slice (some ad196) t193.length co16 : Value).ownBlock)) (by exact Kd.R_nw (Kd.R_mono HO_1000.out (fun _ hk => ⟨⟨hk.1, hk.2.1⟩, hk.2.2⟩))) hg hat) (an (blk_grown (blk_nw BK0.out) hg (Kd.R_ne HO_8.out BK0.out (by decide))) (an (blk_grown (blk_nw BK192.out) hg (Kd.R_ne HO_8.out BK192.out (by decide))) (an (hb) (an (Kept.of_grown (S := (fun k_ => (P0_0_ k_) ∨ k_ = g)) hg (by exact kpt) (fun k_ e_ => Or.imp_left Or.inl ((HO_8.out.1 k_ e_).1))) (an (ho) (trivial))))))); clear HO_7 HO_1000 BK0 BK192 HB HK HO_8; obtain ⟨HO_7, HO_1000, BK0, BK192, HB, HK, HO200, -⟩ := n_; clear ho hb hg hat))
       repeat (go_quiet (fail); try go_wp2_with (first | ((with_reducible refine gate_builtin (b := .append) (xs := #[.tmp 27, .tmp 32]) rfl ?_); at_builtin; refine Kd.R_append (Kd.int .i64) (w0 := w0) w0.heap.size rfl (.tmp 27) (.tmp 32) 63 3 (.int .i64 0) 8 rfl Try.underlying63 info3 rfl (by decide) (by omega) u8 x8_1 (rd t193 x9_1) [.int .i64 (rd t193 x9_1)] (fun k_ => (P0_0_ k_ ∨ w.heap.size ≤ k_) ∧ some k_ ≠ (.slice (some ad196) t193.length co16 : Value).ownBlock ∧ some k_ ≠ (u9000_ : Value).ownBlock) (fun _ => False) rfl rfl ?aP (fun _ hk => hk.elim) ?aF ?aO ?aB ?aS ?aL ?_; (case aP => exact rfl); (case aB => exact (by exact bel0)); (case aF => exact (fun k_ hk => ⟨(.inr (Nat.le_trans (by first | exact HK.out.1 | exact (show Kept w _ (fun k_ => (P0_0_ k_) ∨ k_ = g) from by exact kpt).1) hk)), Kd.fresh' (Kd.R_lt (by exact Kd.R_nw HO_7.out)) k_ hk, Kd.fresh' (Kd.R_lt (by exact Kd.R_nw HO_1000.out)) k_ hk⟩)); (case aO => exact (by exact Kd.R_nw HO_8.out)); (case aS => exact (below_size (by exact bel0))); (case aL => have := LMc15.out; omega); intro v199 w19 ho hb hg hat; rw [← Ny198.out] at ho; have n_ := an (Kd.R_after (ok := (fun k_ => (P0_0_ k_ ∨ w.heap.size ≤ k_) ∧ some k_ ≠ (u9000_ : Value).ownBlock)) (by exact Kd.R_nw (Kd.R_mono HO_7.out (fun _ hk => ⟨⟨hk.1, hk.2.2⟩, hk.2.1⟩))) hg hat) (an (Kd.R_after (ok := (fun k_ => (P0_0_ k_ ∨ w.heap.size ≤ k_) ∧ some k_ ≠ (.slice (some ad196) t193.length co16 : Value).ownBlock)) (by exact Kd.R_nw (Kd.R_mono HO_1000.out (fun _ hk => ⟨⟨hk.1, hk.2.1⟩, hk.2.2⟩))) hg hat) (an (blk_grown (blk_nw BK0.out) hg (Kd.R_ne HO_8.out BK0.out (by decide))) (an (blk_grown (blk_nw BK192.out) hg (Kd.R_ne HO_8.out BK192.out (by decide))) (an (hb) (an (Kept.of_grown (S := (fun k_ => (P0_0_ k_) ∨ k_ = g)) hg (by exact kpt) (fun k_ e_ => Or.imp_left Or.inl ((HO_8.out.1 k_ e_).1))) (an (ho) (trivial))))))); clear HO_7 HO_1000 BK0 BK192 HB HK HO_8; obtain ⟨HO_7, HO_1000, BK0, BK192, HB, HK, HO200, -⟩ := n_; clear ho hb hg hat)))
       go_roundg k1
       case measure => have := HK1.out; omega
       case rel => exact ⟨(y198), (wrap64 (x9_1 + 1)), (by first | rfl | (simp; done) | (simp [*]; done)), H', ⟨by have := HK1.out; omega⟩, ⟨by exact Kd.R_nw (Kd.R_mono HO_7.out (fun _ hk => ⟨hk.1.1, ⟨hk.2, hk.1.2⟩⟩))⟩, ⟨by exact Kd.R_nw HO200.out⟩, ⟨by exact Kd.R_nw (Kd.R_mono HO_1000.out (fun _ hk => ⟨hk.1.1, ⟨hk.1.2, hk.2⟩⟩))⟩, ⟨by exact blk_nw BK0.out⟩, ⟨by exact blk_nw BK192.out⟩, ⟨by exact kpt⟩, ⟨by exact bel0⟩⟩
      ·rw [if_neg c15] at H
       exact absurd H (by simp)
    ·rw [if_neg c10] at H
     exact absurd H (by simp)
   ·rw [if_neg c9] at H
    have c9b0 : decide (x9_1 < (t193.length : Int)) = false := decide_eq_false c9
    clear c9; (try simp only [c9b0]); replace H := Option.bind_eq_some_iff.mp H
    obtain ⟨⟨t201, t202⟩, A200, H⟩ := H
    replace H : (if (t201.length : Int) > a2 then (if 0 ≤ a2 then (if a2 ≤ (t201.length : Int) then (some ((t201.take (a2 : Int).toNat), l0_0, a0_1, t202, a0_3, a0_4, a0_5)) else (none)) else (none)) else (some (t201, l0_0, a0_1, t202, a0_3, a0_4, a0_5))) = some (r1, r2, r3, r4, r5, r6, r7) := H
    have A20 := Aside0.mk A200; clear A200
    by_cases c21 : (t201.length : Int) > a2
    ·rw [if_pos c21] at H
     have c21b0 : decide (a2 < (t201.length : Int)) = true := decide_eq_true c21
     clear c21; (try simp only [c21b0])
     by_cases c22 : 0 ≤ a2
     ·rw [if_pos c22] at H
      have c22b0 := eq_true c22
      have c22b1 : decide (0 ≤ a2) = true := decide_eq_true c22; clear c22
      by_cases c23 : a2 ≤ (t201.length : Int)
      ·rw [if_pos c23] at H
       have c23b0 := eq_true c23
       have c23b1 : decide (a2 ≤ (t201.length : Int)) = true := decide_eq_true c23
       clear c23
       obtain ⟨y205, hy205⟩ : ∃ y_ : List Int, y_ = (t201.take (a2 : Int).toNat) := ⟨_, rfl⟩
       replace H : (some (y205, l0_0, a0_1, t202, a0_3, a0_4, a0_5)) = some (r1, r2, r3, r4, r5, r6, r7) := by first | (rw [hy205]; with_reducible exact H) | (have H2_ := (Option.bind_some _ _).symm.trans H; rw [hy205]; with_reducible exact H2_) | (have H2_ := (Option.bind_some _ _).symm.trans H; with_reducible exact H2_) | with_reducible exact H | (rw [hy205]; exact H) | exact H
       have Ny205 := Aside0.mk hy205; clear hy205; simp only [Option.some.injEq, Prod.mk.injEq] at H; obtain ⟨rfl, rfl, rfl, rfl, rfl, rfl, rfl⟩ := H
       obtain ⟨Ao24, co24, eo24⟩ := Kd.R_slice HO_7.out
       subst eo24; have hnb25 := NB0_192.out; have hnc25 := NB192_0.out; obtain ⟨hcz26_0, hcz26_1, hcz26_2, hcz26_3, hcz26_4, hcz26_5⟩ := blkz6 BK0.out; have hfz26_0 := blkf BK0.out
       obtain ⟨Ao27, co27, eo27⟩ := Kd.R_slice HO_8.out
       subst eo27
       go_wp2_with (first | (go_at_call 157; (with_reducible refine (spec_l11shuffle.calls k1 _ _ x8_1 a0_2 t201 t202 _ ?side1 ?side2 A20.out).mono ?_); (case side1 => repeat (first | exact (Kd.R_reads' HO_8.out).2.2 | (with_reducible refine Kd.C_alloc ?_ _) | (with_reducible refine Kd.C_drewN ?_ _) | (with_reducible refine Kd.C_drew ?_))); (case side2 => exact (Kd.R_reads' HO_8.out).2.1); rintro e w28 ⟨v203, rfl, ho0, hb⟩; have n_ := an (Kd.R_elder' (by exact Kd.R_nw HO_7.out) (Kd.R_base ho0) hb) (an (Kd.R_elder' (by exact Kd.R_nw HO_8.out) (Kd.R_base ho0) hb) (an (Kd.R_elder' (by exact Kd.R_nw HO_1000.out) (Kd.R_base ho0) hb) (an (Kd.R_lower (Kd.R_new' (Kd.R_new' (Kd.R_new' (Kd.R_newM (M := fun k_ => (P0_0_ k_ ∨ w.heap.size ≤ k_)) ho0 (by first | exact HK.out.1 | exact (show Kept w _ (fun k_ => (P0_0_ k_) ∨ k_ = g) from by exact kpt).1) (fun k_ h_ => .inr h_)) (Kd.R_lt (by exact Kd.R_nw HO_7.out))) (Kd.R_lt (by exact Kd.R_nw HO_8.out))) (Kd.R_lt (by exact Kd.R_nw HO_1000.out))) (below_size (by exact bel0))) (an (blk_below (blk_nw BK0.out) hb) (an (blk_below (blk_nw BK192.out) hb) (an (Kept.below (S := (fun k_ => (P0_0_ k_) ∨ k_ = g)) (by exact kpt) hb) (an (below_step (by exact bel0) hb) (trivial)))))))); clear HO_7 HO_8 HO_1000 BK0 BK192 HK HB; obtain ⟨HO_7, HO_8, HO_1000, HO204, BK0, BK192, HK, HB, -⟩ := n_; (try clear hb); (try clear hb2); (try clear hk); (try clear hi); (try clear ho0); obtain ⟨hcz29_0, hcz29_1, hcz29_2, hcz29_3, hcz29_4, hcz29_5⟩ := blkz6 BK0.out; have hfz29_0 := blkf BK0.out) | ((with_reducible refine gate_store (t := 3) (p := 45) rfl ?_); (try (rw [drewN_self w28]; generalize hq_ : World.drewN w28 _ = w28; have n0_ := Aside0.mk (Kd.R_at hq_ HO_7.out); have n1_ := Aside0.mk (Kd.R_at hq_ HO_8.out); have n2_ := Aside0.mk (Kd.R_at hq_ HO_1000.out); have n3_ := Aside0.mk (Kd.R_at hq_ HO204.out); have n4_ := Aside0.mk (blk_at hq_ BK0.out); have n5_ := Aside0.mk (blk_at hq_ BK192.out); have n6_ := Aside0.mk (kept_at hq_ HK.out); have n7_ := Aside0.mk (below_at hq_ HB.out); clear hq_ HO_7 HO_8 HO_1000 HO204 BK0 BK192 HK HB; have HO_7 := n0_; have HO_8 := n1_; have HO_1000 := n2_; have HO204 := n3_; have BK0 := n4_; have BK192 := n5_; have HK := n6_; have HB := n7_; clear n0_ n1_ n2_ n3_ n4_ n5_ n6_ n7_)); refine store_event (t := 3) (p := 45) (v := ?vo_w30) (w1 := (w28.setCell ⟨g, 2, none⟩ (.int .i64 t202))) ?hg ?ho ?hn ?hr ?_; (case ho => rfl); (case hg => rfl); (case hn => rfl); (case hr => first | (go_simp; done) | (go_simp; rfl)); intro w30 hw; have n0_ : Aside0 (Kd.R (Kd.int .i64) 3 w30 w0.heap.size (fun k_ => (P0_0_ k_ ∨ w.heap.size ≤ k_) ∧ some k_ ≠ (.slice Ao27 x8_1.length co27 : Value).ownBlock ∧ some k_ ≠ (u9000_ : Value).ownBlock ∧ some k_ ≠ (v203 : Value).ownBlock) (.slice Ao24 t193.length co24) t193) := ⟨(by rw [hw]; exact (by exact Kd.R_mono (Kd.R_farN HO_7.out BK0.out) (fun _ hk => ⟨hk.1.1, ⟨hk.1.2.1, ⟨hk.1.2.2, hk.2⟩⟩⟩)))⟩; have n1_ : Aside0 (Kd.R (Kd.int .i64) 3 w30 w0.heap.size (fun k_ => (P0_0_ k_ ∨ w.heap.size ≤ k_) ∧ some k_ ≠ (.slice Ao24 t193.length co24 : Value).ownBlock ∧ some k_ ≠ (u9000_ : Value).ownBlock ∧ some k_ ≠ (v203 : Value).ownBlock) (.slice Ao27 x8_1.length co27) x8_1) := ⟨(by rw [hw]; exact (by exact Kd.R_mono (Kd.R_farN HO_8.out BK0.out) (fun _ hk => ⟨hk.1.1, ⟨hk.1.2.1, ⟨hk.1.2.2, hk.2⟩⟩⟩)))⟩; have n2_ : Aside0 (Kd.R (Kd.int .i64) 3 w30 w0.heap.size (fun k_ => (P0_0_ k_ ∨ w.heap.size ≤ k_) ∧ some k_ ≠ (.slice Ao24 t193.length co24 : Value).ownBlock ∧ some k_ ≠ (.slice Ao27 x8_1.length co27 : Value).ownBlock ∧ some k_ ≠ (v203 : Value).ownBlock) u9000_ l0_0) := ⟨(by rw [hw]; exact (by exact Kd.R_mono (Kd.R_farN HO_1000.out BK0.out) (fun _ hk => ⟨hk.1.1, ⟨hk.1.2.1, ⟨hk.1.2.2, hk.2⟩⟩⟩)))⟩; have n3_ : Aside0 (Kd.R (Kd.int .i64) 3 w30 w0.heap.size (fun k_ => (P0_0_ k_ ∨ w.heap.size ≤ k_) ∧ some k_ ≠ (.slice Ao24 t193.length co24 : Value).ownBlock ∧ some k_ ≠ (.slice Ao27 x8_1.length co27 : Value).ownBlock ∧ some k_ ≠ (u9000_ : Value).ownBlock) v203 t201) := ⟨(by rw [hw]; exact (by exact Kd.R_mono (Kd.R_farN HO204.out BK0.out) (fun _ hk => ⟨hk.1.1.1.1, ⟨hk.1.1.2, ⟨hk.1.2, hk.2⟩⟩⟩)))⟩; have n4_ : Aside0 (w30.heap[g]? = some (.cells #[u9000_, .int .i64 a0_1, .int .i64 t202, .int .i64 a0_3, .int .i64 a0_4, .int .i64 a0_5] 90 (0, 0))) := ⟨(by rw [hw]; exact (by (with_reducible repeat (first | refine blk_drewN ?_ _ | refine blk_drew ?_ | refine blk_alloc ?_ _)); refine blk_put (cs := #[u9000_, .int .i64 a0_1, .int .i64 a0_2, .int .i64 a0_3, .int .i64 a0_4, .int .i64 a0_5]) ?_ 2 _ rfl; (with_reducible repeat (first | refine blk_drewN ?_ _ | refine blk_drew ?_ | refine blk_alloc ?_ _)); exact BK0.out))⟩; have n5_ : Aside0 (w30.heap[gb192]? = some (.cells #[.int .i64 a1_0, .slice A1_1 l1_1.length c1_1] 41 (0, 0))) := ⟨(by rw [hw]; exact (by exact blk_kb BK192.out NB192_0.out))⟩; have n6_ : Aside0 (Kept w w30 (fun k_ => (P0_0_ k_) ∨ k_ = g)) := ⟨(by rw [hw]; exact (by exact kpt))⟩; have n7_ : Aside0 (Below w0.heap.size w0 w30) := ⟨(by rw [hw]; exact (by exact bel0))⟩; clear hw; clear HO_7; clear HO_8; clear HO_1000; clear HO204; clear BK0; clear BK192; clear HK; clear HB; have HO_7 := n0_; have HO_8 := n1_; have HO_1000 := n2_; have HO204 := n3_; have BK0 := n4_; have BK192 := n5_; have HK := n6_; have HB := n7_; clear n0_ n1_ n2_ n3_ n4_ n5_ n6_ n7_; obtain ⟨Ao31, co31, eo31⟩ := Kd.R_slice HO204.out; subst eo31; have q32 : (a2 : Int) ≤ ((t201.length : Int) : Int) := of_decide_eq_true (by first | (with_reducible assumption) | assumption); obtain ⟨i032, hi032, _, hsz32, _⟩ := info_parts info3; have hcut32 := cut_to (P := Try.prog) 63 3 .i64 Try.underlying63 hi032 Ao31 t201.length co31 a2 (of_decide_eq_true (by first | (with_reducible assumption) | assumption)) q32 (Kd.R_reads' HO204.out).2.1; have hr32 := Kd.R_take (m := (a2 : Int).toNat) HO204.out (by omega); have hy32 : y205.length = (a2 : Int).toNat := (by rw [Ny205.out, List.length_take]; omega); rw [← Ny205.out] at hr32; rw [← hy32] at hr32 hcut32; clear hy32 hi032 hsz32 HO204; have HO207 := Aside0.mk hr32; clear hr32; replace q32 := eq_true q32))
       repeat (go_quiet (fail); try go_wp2_with (first | (go_at_call 157; (with_reducible refine (spec_l11shuffle.calls k1 _ _ x8_1 a0_2 t201 t202 _ ?side1 ?side2 A20.out).mono ?_); (case side1 => repeat (first | exact (Kd.R_reads' HO_8.out).2.2 | (with_reducible refine Kd.C_alloc ?_ _) | (with_reducible refine Kd.C_drewN ?_ _) | (with_reducible refine Kd.C_drew ?_))); (case side2 => exact (Kd.R_reads' HO_8.out).2.1); rintro e w28 ⟨v203, rfl, ho0, hb⟩; have n_ := an (Kd.R_elder' (by exact Kd.R_nw HO_7.out) (Kd.R_base ho0) hb) (an (Kd.R_elder' (by exact Kd.R_nw HO_8.out) (Kd.R_base ho0) hb) (an (Kd.R_elder' (by exact Kd.R_nw HO_1000.out) (Kd.R_base ho0) hb) (an (Kd.R_lower (Kd.R_new' (Kd.R_new' (Kd.R_new' (Kd.R_newM (M := fun k_ => (P0_0_ k_ ∨ w.heap.size ≤ k_)) ho0 (by first | exact HK.out.1 | exact (show Kept w _ (fun k_ => (P0_0_ k_) ∨ k_ = g) from by exact kpt).1) (fun k_ h_ => .inr h_)) (Kd.R_lt (by exact Kd.R_nw HO_7.out))) (Kd.R_lt (by exact Kd.R_nw HO_8.out))) (Kd.R_lt (by exact Kd.R_nw HO_1000.out))) (below_size (by exact bel0))) (an (blk_below (blk_nw BK0.out) hb) (an (blk_below (blk_nw BK192.out) hb) (an (Kept.below (S := (fun k_ => (P0_0_ k_) ∨ k_ = g)) (by exact kpt) hb) (an (below_step (by exact bel0) hb) (trivial)))))))); clear HO_7 HO_8 HO_1000 BK0 BK192 HK HB; obtain ⟨HO_7, HO_8, HO_1000, HO204, BK0, BK192, HK, HB, -⟩ := n_; (try clear hb); (try clear hb2); (try clear hk); (try clear hi); (try clear ho0); obtain ⟨hcz29_0, hcz29_1, hcz29_2, hcz29_3, hcz29_4, hcz29_5⟩ := blkz6 BK0.out; have hfz29_0 := blkf BK0.out) | ((with_reducible refine gate_store (t := 3) (p := 45) rfl ?_); (try (rw [drewN_self w28]; generalize hq_ : World.drewN w28 _ = w28; have n0_ := Aside0.mk (Kd.R_at hq_ HO_7.out); have n1_ := Aside0.mk (Kd.R_at hq_ HO_8.out); have n2_ := Aside0.mk (Kd.R_at hq_ HO_1000.out); have n3_ := Aside0.mk (Kd.R_at hq_ HO204.out); have n4_ := Aside0.mk (blk_at hq_ BK0.out); have n5_ := Aside0.mk (blk_at hq_ BK192.out); have n6_ := Aside0.mk (kept_at hq_ HK.out); have n7_ := Aside0.mk (below_at hq_ HB.out); clear hq_ HO_7 HO_8 HO_1000 HO204 BK0 BK192 HK HB; have HO_7 := n0_; have HO_8 := n1_; have HO_1000 := n2_; have HO204 := n3_; have BK0 := n4_; have BK192 := n5_; have HK := n6_; have HB := n7_; clear n0_ n1_ n2_ n3_ n4_ n5_ n6_ n7_)); refine store_event (t := 3) (p := 45) (v := ?vo_w30) (w1 := (w28.setCell ⟨g, 2, none⟩ (.int .i64 t202))) ?hg ?ho ?hn ?hr ?_; (case ho => rfl); (case hg => rfl); (case hn => rfl); (case hr => first | (go_simp; done) | (go_simp; rfl)); intro w30 hw; have n0_ : Aside0 (Kd.R (Kd.int .i64) 3 w30 w0.heap.size (fun k_ => (P0_0_ k_ ∨ w.heap.size ≤ k_) ∧ some k_ ≠ (.slice Ao27 x8_1.length co27 : Value).ownBlock ∧ some k_ ≠ (u9000_ : Value).ownBlock ∧ some k_ ≠ (v203 : Value).ownBlock) (.slice Ao24 t193.length co24) t193) := ⟨(by rw [hw]; exact (by exact Kd.R_mono (Kd.R_farN HO_7.out BK0.out) (fun _ hk => ⟨hk.1.1, ⟨hk.1.2.1, ⟨hk.1.2.2, hk.2⟩⟩⟩)))⟩; have n1_ : Aside0 (Kd.R (Kd.int .i64) 3 w30 w0.heap.size (fun k_ => (P0_0_ k_ ∨ w.heap.size ≤ k_) ∧ some k_ ≠ (.slice Ao24 t193.length co24 : Value).ownBlock ∧ some k_ ≠ (u9000_ : Value).ownBlock ∧ some k_ ≠ (v203 : Value).ownBlock) (.slice Ao27 x8_1.length co27) x8_1) := ⟨(by rw [hw]; exact (by exact Kd.R_mono (Kd.R_farN HO_8.out BK0.out) (fun _ hk => ⟨hk.1.1, ⟨hk.1.2.1, ⟨hk.1.2.2, hk.2⟩⟩⟩)))⟩; have n2_ : Aside0 (Kd.R (Kd.int .i64) 3 w30 w0.heap.size (fun k_ => (P0_0_ k_ ∨ w.heap.size ≤ k_) ∧ some k_ ≠ (.slice Ao24 t193.length co24 : Value).ownBlock ∧ some k_ ≠ (.slice Ao27 x8_1.length co27 : Value).ownBlock ∧ some k_ ≠ (v203 : Value).ownBlock) u9000_ l0_0) := ⟨(by rw [hw]; exact (by exact Kd.R_mono (Kd.R_farN HO_1000.out BK0.out) (fun _ hk => ⟨hk.1.1, ⟨hk.1.2.1, ⟨hk.1.2.2, hk.2⟩⟩⟩)))⟩; have n3_ : Aside0 (Kd.R (Kd.int .i64) 3 w30 w0.heap.size (fun k_ => (P0_0_ k_ ∨ w.heap.size ≤ k_) ∧ some k_ ≠ (.slice Ao24 t193.length co24 : Value).ownBlock ∧ some k_ ≠ (.slice Ao27 x8_1.length co27 : Value).ownBlock ∧ some k_ ≠ (u9000_ : Value).ownBlock) v203 t201) := ⟨(by rw [hw]; exact (by exact Kd.R_mono (Kd.R_farN HO204.out BK0.out) (fun _ hk => ⟨hk.1.1.1.1, ⟨hk.1.1.2, ⟨hk.1.2, hk.2⟩⟩⟩)))⟩; have n4_ : Aside0 (w30.heap[g]? = some (.cells #[u9000_, .int .i64 a0_1, .int .i64 t202, .int .i64 a0_3, .int .i64 a0_4, .int .i64 a0_5] 90 (0, 0))) := ⟨(by rw [hw]; exact (by (with_reducible repeat (first | refine blk_drewN ?_ _ | refine blk_drew ?_ | refine blk_alloc ?_ _)); refine blk_put (cs := #[u9000_, .int .i64 a0_1, .int .i64 a0_2, .int .i64 a0_3, .int .i64 a0_4, .int .i64 a0_5]) ?_ 2 _ rfl; (with_reducible repeat (first | refine blk_drewN ?_ _ | refine blk_drew ?_ | refine blk_alloc ?_ _)); exact BK0.out))⟩; have n5_ : Aside0 (w30.heap[gb192]? = some (.cells #[.int .i64 a1_0, .slice A1_1 l1_1.length c1_1] 41 (0, 0))) := ⟨(by rw [hw]; exact (by exact blk_kb BK192.out NB192_0.out))⟩; have n6_ : Aside0 (Kept w w30 (fun k_ => (P0_0_ k_) ∨ k_ = g)) := ⟨(by rw [hw]; exact (by exact kpt))⟩; have n7_ : Aside0 (Below w0.heap.size w0 w30) := ⟨(by rw [hw]; exact (by exact bel0))⟩; clear hw; clear HO_7; clear HO_8; clear HO_1000; clear HO204; clear BK0; clear BK192; clear HK; clear HB; have HO_7 := n0_; have HO_8 := n1_; have HO_1000 := n2_; have HO204 := n3_; have BK0 := n4_; have BK192 := n5_; have HK := n6_; have HB := n7_; clear n0_ n1_ n2_ n3_ n4_ n5_ n6_ n7_; obtain ⟨Ao31, co31, eo31⟩ := Kd.R_slice HO204.out; subst eo31; have q32 : (a2 : Int) ≤ ((t201.length : Int) : Int) := of_decide_eq_true (by first | (with_reducible assumption) | assumption); obtain ⟨i032, hi032, _, hsz32, _⟩ := info_parts info3; have hcut32 := cut_to (P := Try.prog) 63 3 .i64 Try.underlying63 hi032 Ao31 t201.length co31 a2 (of_decide_eq_true (by first | (with_reducible assumption) | assumption)) q32 (Kd.R_reads' HO204.out).2.1; have hr32 := Kd.R_take (m := (a2 : Int).toNat) HO204.out (by omega); have hy32 : y205.length = (a2 : Int).toNat := (by rw [Ny205.out, List.length_take]; omega); rw [← Ny205.out] at hr32; rw [← hy32] at hr32 hcut32; clear hy32 hi032 hsz32 HO204; have HO207 := Aside0.mk hr32; clear hr32; replace q32 := eq_true q32)))
       go_ret
       exact ⟨(.slice Ao31 y205.length co31), by first | rfl | (simp [errW_none, errW_some] <;> rfl) | (simp [*, errW_none, errW_some] <;> rfl), (u9000_), by exact Kd.R_nw (Kd.R_mono HO207.out (fun _ hk => ⟨hk.1, by first | exact hk.2.2.2 | exact fun e_ => hk.2.2.2 (e_.trans (by generalize Ao31 = A_; cases A_ <;> rfl))⟩)), by exact Kd.R_nw (Kd.R_mono HO_1000.out (fun _ hk => ⟨hk.1, by first | exact hk.2.2.2 | exact fun e_ => hk.2.2.2 (e_.trans (by generalize Ao31 = A_; cases A_ <;> rfl))⟩)), by exact blk_nw BK0.out, by exact bel0, by exact kpt⟩
      ·rw [if_neg c23] at H
       exact absurd H (by simp)
     ·rw [if_neg c22] at H
      exact absurd H (by simp)
    ·rw [if_neg c21] at H
     have c21b0 : decide (a2 < (t201.length : Int)) = false := decide_eq_false c21
     clear c21; (try simp only [c21b0]); simp only [Option.some.injEq, Prod.mk.injEq] at H; obtain ⟨rfl, rfl, rfl, rfl, rfl, rfl, rfl⟩ := H
     obtain ⟨Ao33, co33, eo33⟩ := Kd.R_slice HO_7.out
     subst eo33; have hnb34 := NB0_192.out; have hnc34 := NB192_0.out; obtain ⟨hcz35_0, hcz35_1, hcz35_2, hcz35_3, hcz35_4, hcz35_5⟩ := blkz6 BK0.out; have hfz35_0 := blkf BK0.out
     obtain ⟨Ao36, co36, eo36⟩ := Kd.R_slice HO_8.out
     subst eo36
     go_wp2_with (first | (go_at_call 157; (with_reducible refine (spec_l11shuffle.calls k1 _ _ x8_1 a0_2 t201 t202 _ ?side1 ?side2 A20.out).mono ?_); (case side1 => repeat (first | exact (Kd.R_reads' HO_8.out).2.2 | (with_reducible refine Kd.C_alloc ?_ _) | (with_reducible refine Kd.C_drewN ?_ _) | (with_reducible refine Kd.C_drew ?_))); (case side2 => exact (Kd.R_reads' HO_8.out).2.1); rintro e w37 ⟨v203, rfl, ho0, hb⟩; have n_ := an (Kd.R_elder' (by exact Kd.R_nw HO_7.out) (Kd.R_base ho0) hb) (an (Kd.R_elder' (by exact Kd.R_nw HO_8.out) (Kd.R_base ho0) hb) (an (Kd.R_elder' (by exact Kd.R_nw HO_1000.out) (Kd.R_base ho0) hb) (an (Kd.R_lower (Kd.R_new' (Kd.R_new' (Kd.R_new' (Kd.R_newM (M := fun k_ => (P0_0_ k_ ∨ w.heap.size ≤ k_)) ho0 (by first | exact HK.out.1 | exact (show Kept w _ (fun k_ => (P0_0_ k_) ∨ k_ = g) from by exact kpt).1) (fun k_ h_ => .inr h_)) (Kd.R_lt (by exact Kd.R_nw HO_7.out))) (Kd.R_lt (by exact Kd.R_nw HO_8.out))) (Kd.R_lt (by exact Kd.R_nw HO_1000.out))) (below_size (by exact bel0))) (an (blk_below (blk_nw BK0.out) hb) (an (blk_below (blk_nw BK192.out) hb) (an (Kept.below (S := (fun k_ => (P0_0_ k_) ∨ k_ = g)) (by exact kpt) hb) (an (below_step (by exact bel0) hb) (trivial)))))))); clear HO_7 HO_8 HO_1000 BK0 BK192 HK HB; obtain ⟨HO_7, HO_8, HO_1000, HO204, BK0, BK192, HK, HB, -⟩ := n_; (try clear hb); (try clear hb2); (try clear hk); (try clear hi); (try clear ho0); obtain ⟨hcz38_0, hcz38_1, hcz38_2, hcz38_3, hcz38_4, hcz38_5⟩ := blkz6 BK0.out; have hfz38_0 := blkf BK0.out; obtain ⟨Ao39, co39, eo39⟩ := Kd.R_slice HO204.out; subst eo39))
     repeat (go_quiet (fail); try go_wp2_with (first | (go_at_call 157; (with_reducible refine (spec_l11shuffle.calls k1 _ _ x8_1 a0_2 t201 t202 _ ?side1 ?side2 A20.out).mono ?_); (case side1 => repeat (first | exact (Kd.R_reads' HO_8.out).2.2 | (with_reducible refine Kd.C_alloc ?_ _) | (with_reducible refine Kd.C_drewN ?_ _) | (with_reducible refine Kd.C_drew ?_))); (case side2 => exact (Kd.R_reads' HO_8.out).2.1); rintro e w37 ⟨v203, rfl, ho0, hb⟩; have n_ := an (Kd.R_elder' (by exact Kd.R_nw HO_7.out) (Kd.R_base ho0) hb) (an (Kd.R_elder' (by exact Kd.R_nw HO_8.out) (Kd.R_base ho0) hb) (an (Kd.R_elder' (by exact Kd.R_nw HO_1000.out) (Kd.R_base ho0) hb) (an (Kd.R_lower (Kd.R_new' (Kd.R_new' (Kd.R_new' (Kd.R_newM (M := fun k_ => (P0_0_ k_ ∨ w.heap.size ≤ k_)) ho0 (by first | exact HK.out.1 | exact (show Kept w _ (fun k_ => (P0_0_ k_) ∨ k_ = g) from by exact kpt).1) (fun k_ h_ => .inr h_)) (Kd.R_lt (by exact Kd.R_nw HO_7.out))) (Kd.R_lt (by exact Kd.R_nw HO_8.out))) (Kd.R_lt (by exact Kd.R_nw HO_1000.out))) (below_size (by exact bel0))) (an (blk_below (blk_nw BK0.out) hb) (an (blk_below (blk_nw BK192.out) hb) (an (Kept.below (S := (fun k_ => (P0_0_ k_) ∨ k_ = g)) (by exact kpt) hb) (an (below_step (by exact bel0) hb) (trivial)))))))); clear HO_7 HO_8 HO_1000 BK0 BK192 HK HB; obtain ⟨HO_7, HO_8, HO_1000, HO204, BK0, BK192, HK, HB, -⟩ := n_; (try clear hb); (try clear hb2); (try clear hk); (try clear hi); (try clear ho0); obtain ⟨hcz38_0, hcz38_1, hcz38_2, hcz38_3, hcz38_4, hcz38_5⟩ := blkz6 BK0.out; have hfz38_0 := blkf BK0.out; obtain ⟨Ao39, co39, eo39⟩ := Kd.R_slice HO204.out; subst eo39)))
     go_ret
     exact ⟨(.slice Ao39 t201.length co39), by first | rfl | (simp [errW_none, errW_some] <;> rfl) | (simp [*, errW_none, errW_some] <;> rfl), (u9000_), by exact Kd.R_mono (Kd.R_farN HO204.out BK0.out) (fun _ hk => ⟨hk.1.1.1.1, by first | exact hk.2 | exact fun e_ => hk.2 (e_.trans (by generalize Ao39 = A_; cases A_ <;> rfl))⟩), by exact Kd.R_mono (Kd.R_farN HO_1000.out BK0.out) (fun _ hk => ⟨hk.1.1, by first | exact hk.2 | exact fun e_ => hk.2 (e_.trans (by generalize Ao39 = A_; cases A_ <;> rfl))⟩), by (with_reducible repeat (first | refine blk_drewN ?_ _ | refine blk_drew ?_ | refine blk_alloc ?_ _)); refine blk_put (cs := #[u9000_, .int .i64 a0_1, .int .i64 a0_2, .int .i64 a0_3, .int .i64 a0_4, .int .i64 a0_5]) ?_ 2 _ rfl; (with_reducible repeat (first | refine blk_drewN ?_ _ | refine blk_drew ?_ | refine blk_alloc ?_ _)); exact BK0.out, by exact bel0, by exact kpt⟩

end Go.Proofs.Ytigoajblljolcaa.XFnExactHelpers
