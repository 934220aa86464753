-- Written by this session's own program (xprint.py) over the kit's print.
import Derived.Test.YtigoajblljolcaaXFnExactMergex0
import Derived.Test.YtigoajblljolcaaXFnExactMergex7
import Derived.Test.YtigoajblljolcaaXFnExactMergex8
namespace Go.Proofs.Ytigoajblljolcaa.XFnExactMerge
open Go.RowKit Go.Proofs.YtigoajblljolcaaW.PrintWords Go.Proofs.YtigoajblljolcaaW.PrintLast Go.Proofs.YtigoajblljolcaaW.PrintMore
attribute [local go_sem] max2_int min2_int max_two min_two max_three min_three max_four min_four   -- for this text's walks alone
set_option linter.unusedVariables false
set_option linter.unusedSimpArgs false

/-! ### impl_Merge: function 55 -/
def impl_Merge.j0 : Nat → Bool → Int → List (S82) → Int → List (S82) → Option (Int × (List (S82)) × Bool)
  | 0, _, _, _, _, _ => none
  | k + 1, x15, x253000, x253001, x254000, x254001 => if x15 = true then (some (0, ([] : List (S82)), false)) else ((impl_Table_own.f x253000 x253001).bind fun bt257 => ((impl_Table_merge.f k bt257.1 bt257.2 x254000 x254001).bind fun bt262 => (some (bt262.2.1, bt262.2.2, bt262.1))))
def impl_Merge.f (k : Nat) (a0_0 : Int) (l0_1 : List (S82)) (a1_0 : Int) (l1_1 : List (S82)) : Option (Int × (List (S82)) × Bool) := (impl_TableOk.f k a0_0 l0_1).bind fun t255 => (if t255 = true then ((impl_TableOk.f k a1_0 l1_1).bind fun t256 => (impl_Merge.j0 k (!t256) a0_0 l0_1 a1_0 l1_1)) else (impl_Merge.j0 k true a0_0 l0_1 a1_0 l1_1))
theorem impl_Merge.mono_l : ∀ k, (∀ y0 y1 y2 y3 y4, LeO (impl_Merge.j0 k y0 y1 y2 y3 y4) (impl_Merge.j0 (k + 1) y0 y1 y2 y3 y4))
 | 0 => fun _ _ _ _ _ r h => by simp [impl_Merge.j0] at h
 | k + 1 => by
  have ih0 := impl_Merge.mono_l k
  ·intro y0 y1 y2 y3 y4
   unfold impl_Merge.j0
   repeat' first
   | (with_reducible exact ih0 _ _ _ _ _)
   | (with_reducible exact impl_TableOk.mono _ _ _)
   | (with_reducible exact impl_Table_merge.mono _ _ _ _ _)
   | (with_reducible exact LeO.refl _)
   | (with_reducible exact LeO.none _)
   | (with_reducible refine LeO.ite ?_ ?_)
   | (with_reducible refine LeO.bind ?_ (fun _ => ?_))
   | exact ih0 _ _ _ _ _
   | exact impl_TableOk.mono _ _ _
   | exact impl_Table_merge.mono _ _ _ _ _
   | exact LeO.none _
   | refine LeO.ite ?_ ?_
   | refine LeO.bind ?_ (fun _ => ?_)
theorem impl_Merge.mono : ∀ a0 a1 a2 a3 k, LeO (impl_Merge.f k a0 a1 a2 a3) (impl_Merge.f (k + 1) a0 a1 a2 a3) := by
 intro a0 a1 a2 a3 k
 have ih0 := impl_Merge.mono_l k
 unfold impl_Merge.f
 repeat' first
   | (with_reducible exact ih0 _ _ _ _ _)
   | (with_reducible exact impl_TableOk.mono _ _ _)
   | (with_reducible exact impl_Table_merge.mono _ _ _ _ _)
   | (with_reducible exact LeO.refl _)
   | (with_reducible exact LeO.none _)
   | (with_reducible refine LeO.ite ?_ ?_)
   | (with_reducible refine LeO.bind ?_ (fun _ => ?_))
   | exact ih0 _ _ _ _ _
   | exact impl_TableOk.mono _ _ _
   | exact impl_Table_merge.mono _ _ _ _ _
   | exact LeO.none _
   | refine LeO.ite ?_ ?_
   | refine LeO.bind ?_ (fun _ => ?_)
set_option maxHeartbeats 8000000 in
set_option maxRecDepth 100000 in
theorem impl_Merge.calls (k : Nat) (a0_0 : Int) (A0_1 : Option Addr) (c0_1 : Nat) (l0_1 : List (S82)) (a1_0 : Int) (A1_1 : Option Addr) (c1_1 : Nat) (l1_1 : List (S82)) (r1 : Int) (r2 : List (S82)) (r3 : Bool) (w : World) (hr0_1 : Kd.C k82 w A0_1 l0_1.length l0_1) (hc0_1 : l0_1.length ≤ c0_1) (hr1_1 : Kd.C k82 w A1_1 l1_1.length l1_1) (hc1_1 : l1_1.length ≤ c1_1) (h : impl_Merge.f k a0_0 l0_1 a1_0 l1_1 = some (r1, r2, r3)) :
  Calls Try.prog 55 #[.agg #[.int .i64 a0_0, .slice A0_1 l0_1.length c0_1], .agg #[.int .i64 a1_0, .slice A1_1 l1_1.length c1_1]] w fun e w' => ∃ v1_ : Value, e = .returned (.tuple #[.agg #[.int .i64 r1, v1_], .bool r3]) ∧ Kd.R k82 82 w' w.heap.size (fun _ => True) v1_ r2 ∧ Below w.heap.size w w' := by
 have hu41 := Try.underlying41
 have HR0_1 := Aside0.mk hr0_1; have HC0_1 := Aside0.mk hc0_1; clear hr0_1 hc0_1; have HR1_1 := Aside0.mk hr1_1; have HC1_1 := Aside0.mk hc1_1; clear hr1_1 hc1_1
 have HB := Aside0.mk (Below.refl w.heap.size w)
 have H : ((impl_TableOk.f k a0_0 l0_1).bind fun t255 => (if t255 = true then ((impl_TableOk.f k a1_0 l1_1).bind fun t256 => (impl_Merge.j0 k (!t256) a0_0 l0_1 a1_0 l1_1)) else (impl_Merge.j0 k true a0_0 l0_1 a1_0 l1_1))) = some (r1, r2, r3) := h
 clear h; have HC3 := Aside0.mk H; clear H; go_enter Try.func55, Try.ntmps55
 go_upto_region 1 with (first | ((with_reducible refine gate_dst (N := 2) rfl ?_); refine box_event ?hg (N := 2) ?hd (cs := #[.int .i64 a0_0, .slice A0_1 l0_1.length c0_1]) (t := 41) ?hr ?_; (case hd => rfl); (case hg => rfl); (case hr => first | (go_simp; done) | (go_simp; rfl)); intro gb252 hg w4 hbox hb; have n_ := an (below_step (by exact bel0) hb) (an (hbox) (an ((by rw [hg]; exact (below_size (by exact bel0)) : w.heap.size ≤ gb252)) (an ((by rw [hg]; exact (below_size (by exact bel0)) : w.heap.size ≤ gb252)) (trivial)))); clear HB; obtain ⟨HB, BK252, GW252, GE252, -⟩ := n_; clear hb hbox hg) | ((with_reducible refine gate_dst (N := 3) rfl ?_); refine box_event ?hg (N := 3) ?hd (cs := #[.int .i64 a1_0, .slice A1_1 l1_1.length c1_1]) (t := 41) ?hr ?_; (case hd => rfl); (case hg => rfl); (case hr => first | (go_simp; done) | (go_simp; rfl)); intro gb253 hg w5 hbox hb; have n_ := an (blk_below (blk_nw BK252.out) hb) (an (below_step (by exact bel0) hb) (an (hbox) (an ((by rw [hg]; exact (below_size (by exact bel0)) : w.heap.size ≤ gb253)) (an ((by rw [hg]; exact (below_size (by exact bel0)) : w.heap.size ≤ gb253)) (an ((by rw [hg]; exact Nat.ne_of_lt (blk_lt (blk_nw BK252.out)) : gb252 ≠ gb253)) (an ((by rw [hg]; exact Nat.ne_of_gt (blk_lt (blk_nw BK252.out)) : gb253 ≠ gb252)) (trivial))))))); clear BK252 HB; obtain ⟨BK252, HB, BK253, GW253, GE253, NB252_253, NB253_252, -⟩ := n_; clear hb hbox hg) | ((with_reducible refine gate_dst (N := 4) rfl ?_); refine box_event ?hg (N := 4) ?hd (cs := #[.int .i64 0, .slice none 0 0]) (t := 41) ?hr ?_; (case hd => rfl); (case hg => rfl); (case hr => first | (go_simp; done) | (go_simp; rfl)); intro gb254 hg w6 hbox hb; have n_ := an (blk_below (blk_nw BK252.out) hb) (an (blk_below (blk_nw BK253.out) hb) (an (below_step (by exact bel0) hb) (an (hbox) (an ((by rw [hg]; exact (below_size (by exact bel0)) : w.heap.size ≤ gb254)) (an ((by rw [hg]; exact (below_size (by exact bel0)) : w.heap.size ≤ gb254)) (an ((by rw [hg]; exact Nat.ne_of_lt (blk_lt (blk_nw BK252.out)) : gb252 ≠ gb254)) (an ((by rw [hg]; exact Nat.ne_of_gt (blk_lt (blk_nw BK252.out)) : gb254 ≠ gb252)) (an ((by rw [hg]; exact Nat.ne_of_lt (blk_lt (blk_nw BK253.out)) : gb253 ≠ gb254)) (an ((by rw [hg]; exact Nat.ne_of_gt (blk_lt (blk_nw BK253.out)) : gb254 ≠ gb253)) (trivial)))))))))); clear BK252 BK253 HB; obtain ⟨BK252, BK253, HB, BK254, GW254, GE254, NB252_254, NB254_252, NB253_254, NB254_253, -⟩ := n_; clear hb hbox hg))
 (try simp only [Act.put, List.setIfInBounds_toArray, List.set_cons_zero, List.set_cons_succ])
 go_cut [15] (fun v15 wc => ∃ (kq : Nat) (x15_2 : Bool), v15 = .bool x15_2 ∧ Aside0 (impl_Merge.j0 kq x15_2 a0_0 l0_1 a1_0 l1_1 = some (r1, r2, r3)) ∧ Aside0 (kq ≤ k) ∧ Aside0 (wc.heap[gb252]? = some (.cells #[.int .i64 a0_0, (.slice A0_1 l0_1.length c0_1)] 41 (0, 0))) ∧ Aside0 (wc.heap[gb253]? = some (.cells #[.int .i64 a1_0, (.slice A1_1 l1_1.length c1_1)] 41 (0, 0))) ∧ Aside0 (wc.heap[gb254]? = some (.cells #[.int .i64 0, (.slice none 0 0)] 41 (0, 0))) ∧ Aside0 (Below w.heap.size w wc))
 case first =>
  have H := HC3.out; clear HC3; replace H := Option.bind_eq_some_iff.mp H; obtain ⟨t255, A70, H⟩ := H; have A7 := Aside0.mk A70; clear A70; have hnb8 := NB252_253.out; have hnc8 := NB253_252.out; have hnb9 := NB252_254.out; have hnc9 := NB254_252.out; obtain ⟨hcz10_0, hcz10_1⟩ := blkz2 BK252.out; have hfz10_0 := blkf BK252.out
  replace H := Aside0.mk H
  go_wp2_with (first | ((with_reducible refine gate_callee (f := 81) rfl ?_); refine goesL_ (some 9) rfl rfl Try.func81 (by kernel_rfl) rfl #[.agg #[.int .i64 a0_0, .slice A0_1 l0_1.length c0_1]] rfl (by (try simp only [List.map_toArray, List.map_cons, List.map_nil]); first | done | rfl | (simp only [List.length_drop, List.length_take]; rfl)) ?_; (with_reducible refine (impl_TableOk.calls k a0_0 _ _ l0_1 t255 _ ?side1 ?side2 A7.out).mono ?_); (case side1 => repeat (first | exact (Kd.C_below HR0_1.out HB.out) | (with_reducible refine Kd.C_alloc ?_ _) | (with_reducible refine Kd.C_drewN ?_ _) | (with_reducible refine Kd.C_drew ?_))); (case side2 => exact HC0_1.out); rintro e w11 ⟨rfl, hb⟩; refine ⟨_, rfl, ?_⟩; have n_ := an (blk_below (blk_nw BK252.out) hb) (an (blk_below (blk_nw BK253.out) hb) (an (blk_below (blk_nw BK254.out) hb) (an (below_step (by exact bel0) hb) (trivial)))); clear BK252 BK253 BK254 HB; obtain ⟨BK252, BK253, BK254, HB, -⟩ := n_; (try clear hb); (try clear hb2); (try clear hk); (try clear hi); refine Stop.out ?_))
  refine Stop.mk ?_
  replace H := H.out
  by_cases c12 : t255 = true
  ·subst c12; rw [if_pos rfl] at H; replace H := Option.bind_eq_some_iff.mp H; obtain ⟨t256, A130, H⟩ := H; have A13 := Aside0.mk A130; clear A130
   have H' := Aside0.mk H
   clear H; have hnb14 := NB253_252.out; have hnc14 := NB252_253.out; have hnb15 := NB253_254.out; have hnc15 := NB254_253.out; obtain ⟨hcz16_0, hcz16_1⟩ := blkz2 BK253.out; have hfz16_0 := blkf BK253.out
   go_wp2_with (first | (go_at_call 81; (with_reducible refine (impl_TableOk.calls k a1_0 _ _ l1_1 t256 _ ?side1 ?side2 A13.out).mono ?_); (case side1 => repeat (first | exact (Kd.C_below HR1_1.out HB.out) | (with_reducible refine Kd.C_alloc ?_ _) | (with_reducible refine Kd.C_drewN ?_ _) | (with_reducible refine Kd.C_drew ?_))); (case side2 => exact HC1_1.out); rintro e w17 ⟨rfl, hb⟩; have n_ := an (blk_below (blk_nw BK252.out) hb) (an (blk_below (blk_nw BK253.out) hb) (an (blk_below (blk_nw BK254.out) hb) (an (below_step (by exact bel0) hb) (trivial)))); clear BK252 BK253 BK254 HB; obtain ⟨BK252, BK253, BK254, HB, -⟩ := n_; (try clear hb); (try clear hb2); (try clear hk); (try clear hi)))
   go_meet
   case rel => exact ⟨_, (!t256), (by first | rfl | (simp; done) | (simp [*]; done)), H', ⟨by first | omega | exact Nat.le_refl _⟩, ⟨by exact blk_nw BK252.out⟩, ⟨by exact blk_nw BK253.out⟩, ⟨by exact blk_nw BK254.out⟩, ⟨by exact bel0⟩⟩
  ·replace c12 := Bool.eq_false_iff.mpr c12
   subst c12
   rw [if_neg (show ¬ (false = true) by decide)] at H
   have H' := Aside0.mk H
   clear H
   go_wp2
   go_meet
   case rel => exact ⟨_, (true), (by first | rfl | (simp; done) | (simp [*]; done)), H', ⟨by first | omega | exact Nat.le_refl _⟩, ⟨by exact blk_nw BK252.out⟩, ⟨by exact blk_nw BK253.out⟩, ⟨by exact blk_nw BK254.out⟩, ⟨by exact bel0⟩⟩
 case rest =>
  clear HC3; try clear c1; try clear p2; try clear c5; try clear c8; try clear c9; try clear c12; try clear c14; try clear c15; try clear hcz10_0; try clear hcz10_1; try clear hcz16_0; try clear hcz16_1; try clear hfz10_0; try clear hfz10_1; try clear hfz16_0; try clear hfz16_1
  obtain ⟨kq, x15_2, rfl, HA, HJ2, BK252, BK253, BK254, HB⟩ := hcut
  cases kq with
  | zero => exact absurd HA.out (by simp [impl_Merge.j0])
  | succ kj2 =>
   have H := HA.out; clear HA
   simp only [impl_Merge.j0] at H
   by_cases c18 : x15_2 = true
   ·subst c18; rw [if_pos rfl] at H; simp only [Option.some.injEq, Prod.mk.injEq] at H; obtain ⟨rfl, rfl, rfl⟩ := H; have hnb19 := NB254_252.out; have hnc19 := NB252_254.out; have hnb20 := NB254_253.out; have hnc20 := NB253_254.out; obtain ⟨hcz21_0, hcz21_1⟩ := blkz2 BK254.out; have hfz21_0 := blkf BK254.out
    go_wp2_with (first | ((with_reducible refine gate_store (t := 41) (p := 4) rfl ?_); refine store_event (t := 41) (p := 4) (v := ?vo_w22) (w1 := ((wc.setCell ⟨gb254, 0, none⟩ (.int .i64 0)).setCell ⟨gb254, 1, none⟩ (.slice none 0 0))) ?hg ?ho ?hn ?hr ?_; (case ho => rfl); (case hg => rfl); (case hn => rfl); (case hr => first | (go_simp; done) | (go_simp; rfl)); intro w22 hw; have n0_ : Aside0 (w22.heap[gb252]? = some (.cells #[.int .i64 a0_0, .slice A0_1 l0_1.length c0_1] 41 (0, 0))) := ⟨(by rw [hw]; exact (by exact blk_kb BK252.out NB252_254.out))⟩; have n1_ : Aside0 (w22.heap[gb253]? = some (.cells #[.int .i64 a1_0, .slice A1_1 l1_1.length c1_1] 41 (0, 0))) := ⟨(by rw [hw]; exact (by exact blk_kb BK253.out NB253_254.out))⟩; have n2_ : Aside0 (w22.heap[gb254]? = some (.cells #[.int .i64 0, .slice none 0 0] 41 (0, 0))) := ⟨(by rw [hw]; exact (by (with_reducible repeat (first | refine blk_drewN ?_ _ | refine blk_drew ?_ | refine blk_alloc ?_ _)); exact blk_fill2 BK254.out))⟩; have n3_ : Aside0 (Below w.heap.size w w22) := ⟨(by rw [hw]; exact (by exact bel0))⟩; clear hw; clear BK252; clear BK253; clear BK254; clear HB; have BK252 := n0_; have BK253 := n1_; have BK254 := n2_; have HB := n3_; clear n0_ n1_ n2_ n3_))
    refine bodyPost_ret (results_ct rfl _ _ gb254 41 #[.int .i64 0, .slice none 0 0] (0, 0) _ rfl (by exact blk_nw BK254.out) Try.underlying41 rfl (by kernel_rfl)) rfl ?_
    exact ⟨_, by first | rfl | (simp [errW_none, errW_some] <;> rfl) | (simp [*, errW_none, errW_some] <;> rfl), by first | exact Kd.R_nil _ _ _ _ _ | exact Kd.N_nil _ _ _ _ _ | exact Kd.V_nil _ _ _ _ _ | exact Kd.Q_nil _ _ _ _ _ | exact Kd.S_nil _ _ _ _ _, by exact bel0⟩
   ·replace c18 := Bool.eq_false_iff.mpr c18
    subst c18
    rw [if_neg (show ¬ (false = true) by decide)] at H
    replace H := Option.bind_eq_some_iff.mp H
    obtain ⟨⟨t257, t258⟩, A230, H⟩ := H
    replace H : ((impl_Table_merge.f kj2 t257 t258 a1_0 l1_1).bind fun bt262 => (some (bt262.2.1, bt262.2.2, bt262.1))) = some (r1, r2, r3) := H
    have A23 := Aside0.mk A230; clear A230; replace H := Option.bind_eq_some_iff.mp H
    obtain ⟨⟨t262, t263, t264⟩, A240, H⟩ := H
    replace H : (some (t263, t264, t262)) = some (r1, r2, r3) := H
    have A24 := Aside0.mk A240; clear A240; simp only [Option.some.injEq, Prod.mk.injEq] at H; obtain ⟨rfl, rfl, rfl⟩ := H; have hnb25 := NB252_253.out; have hnc25 := NB253_252.out; have hnb26 := NB252_254.out; have hnc26 := NB254_252.out; obtain ⟨hcz27_0, hcz27_1⟩ := blkz2 BK252.out; have hfz27_0 := blkf BK252.out
    go_wp2_with (first | ((with_reducible refine gate_callee (f := 82) rfl ?_); refine goesL_ (some 18) rfl rfl Try.func82 (by kernel_rfl) rfl #[.agg #[.int .i64 a0_0, .slice A0_1 l0_1.length c0_1]] rfl (by (try simp only [List.map_toArray, List.map_cons, List.map_nil]); first | done | rfl | (simp only [List.length_drop, List.length_take]; rfl)) ?_; (with_reducible refine (impl_Table_own.calls a0_0 _ _ l0_1 t257 t258 _ ?side1 ?side2 A23.out).mono ?_); (case side1 => repeat (first | exact (Kd.C_below HR0_1.out HB.out) | (with_reducible refine Kd.C_alloc ?_ _) | (with_reducible refine Kd.C_drewN ?_ _) | (with_reducible refine Kd.C_drew ?_))); (case side2 => exact HC0_1.out); rintro e w28 ⟨v259, rfl, ho0, hb⟩; refine ⟨_, rfl, ?_⟩; have n_ := an (Kd.R_lower ho0 (below_size (by exact bel0))) (an (blk_below (blk_nw BK252.out) hb) (an (blk_below (blk_nw BK253.out) hb) (an (blk_below (blk_nw BK254.out) hb) (an (below_step (by exact bel0) hb) (trivial))))); clear BK252 BK253 BK254 HB; obtain ⟨HO260, BK252, BK253, BK254, HB, -⟩ := n_; (try clear hb); (try clear hb2); (try clear hk); (try clear hi); (try clear ho0)) | ((with_reducible refine gate_dst (N := 6) rfl ?_); refine box_event ?hg (N := 6) ?hd (cs := #[.int .i64 0, .slice none 0 0]) (t := 41) ?hr ?_; (case hd => rfl); (case hg => rfl); (case hr => first | (go_simp; done) | (go_simp; rfl)); intro gb261 hg w29 hbox hb; have n_ := an (Kd.R_below (by exact Kd.R_nw HO260.out) hb) (an (blk_below (blk_nw BK252.out) hb) (an (blk_below (blk_nw BK253.out) hb) (an (blk_below (blk_nw BK254.out) hb) (an (below_step (by exact bel0) hb) (an (hbox) (an ((by rw [hg]; exact (below_size (by exact bel0)) : w.heap.size ≤ gb261)) (an ((by rw [hg]; exact (below_size (by exact bel0)) : w.heap.size ≤ gb261)) (an ((by rw [hg]; exact Nat.ne_of_lt (blk_lt (blk_nw BK252.out)) : gb252 ≠ gb261)) (an ((by rw [hg]; exact Nat.ne_of_gt (blk_lt (blk_nw BK252.out)) : gb261 ≠ gb252)) (an ((by rw [hg]; exact Nat.ne_of_lt (blk_lt (blk_nw BK253.out)) : gb253 ≠ gb261)) (an ((by rw [hg]; exact Nat.ne_of_gt (blk_lt (blk_nw BK253.out)) : gb261 ≠ gb253)) (an ((by rw [hg]; exact Nat.ne_of_lt (blk_lt (blk_nw BK254.out)) : gb254 ≠ gb261)) (an ((by rw [hg]; exact Nat.ne_of_gt (blk_lt (blk_nw BK254.out)) : gb261 ≠ gb254)) (trivial)))))))))))))); clear HO260 BK252 BK253 BK254 HB; obtain ⟨HO260, BK252, BK253, BK254, HB, BK261, GW261, GE261, NB252_261, NB261_252, NB253_261, NB261_253, NB254_261, NB261_254, -⟩ := n_; clear hb hbox hg; have hnb30 := NB261_252.out; have hnc30 := NB252_261.out; have hnb31 := NB261_253.out; have hnc31 := NB253_261.out; have hnb32 := NB261_254.out; have hnc32 := NB254_261.out; obtain ⟨hcz33_0, hcz33_1⟩ := blkz2 BK261.out; have hfz33_0 := blkf BK261.out; obtain ⟨Ao34, co34, eo34⟩ := Kd.R_slice HO260.out; subst eo34) | ((with_reducible refine gate_store (t := 41) (p := 6) rfl ?_); refine store_event (t := 41) (p := 6) (v := ?vo_w35) (w1 := ((w29.setCell ⟨gb261, 0, none⟩ (.int .i64 t257)).setCell ⟨gb261, 1, none⟩ (.slice Ao34 t258.length co34))) ?hg ?ho ?hn ?hr ?_; (case ho => rfl); (case hg => rfl); (case hn => rfl); (case hr => first | (go_simp; done) | (go_simp; rfl)); intro w35 hw; have n0_ : Aside0 (Kd.R k82 82 w35 w.heap.size (fun _ => True) (.slice Ao34 t258.length co34) t258) := ⟨(by rw [hw]; exact (by exact (Kd.R_farN HO260.out BK261.out)))⟩; have n1_ : Aside0 (w35.heap[gb252]? = some (.cells #[.int .i64 a0_0, .slice A0_1 l0_1.length c0_1] 41 (0, 0))) := ⟨(by rw [hw]; exact (by exact blk_kb BK252.out NB252_261.out))⟩; have n2_ : Aside0 (w35.heap[gb253]? = some (.cells #[.int .i64 a1_0, .slice A1_1 l1_1.length c1_1] 41 (0, 0))) := ⟨(by rw [hw]; exact (by exact blk_kb BK253.out NB253_261.out))⟩; have n3_ : Aside0 (w35.heap[gb254]? = some (.cells #[.int .i64 0, .slice none 0 0] 41 (0, 0))) := ⟨(by rw [hw]; exact (by exact blk_kb BK254.out NB254_261.out))⟩; have n4_ : Aside0 (w35.heap[gb261]? = some (.cells #[.int .i64 t257, .slice Ao34 t258.length co34] 41 (0, 0))) := ⟨(by rw [hw]; exact (by (with_reducible repeat (first | refine blk_drewN ?_ _ | refine blk_drew ?_ | refine blk_alloc ?_ _)); exact blk_fill2 BK261.out))⟩; have n5_ : Aside0 (Below w.heap.size w w35) := ⟨(by rw [hw]; exact (by exact bel0))⟩; clear hw; clear HO260; clear BK252; clear BK253; clear BK254; clear BK261; clear HB; have HO260 := n0_; have BK252 := n1_; have BK253 := n2_; have BK254 := n3_; have BK261 := n4_; have HB := n5_; clear n0_ n1_ n2_ n3_ n4_ n5_; have hnb36 := NB253_254.out; have hnc36 := NB254_253.out; obtain ⟨hcz37_0, hcz37_1⟩ := blkz2 BK253.out; have hfz37_0 := blkf BK253.out) | ((with_reducible refine gate_callee (f := 116) rfl ?_); refine goesL_ (some 20) rfl rfl Try.func116 (by kernel_rfl) rfl #[.pointer (some ⟨gb261, 0, none⟩), .agg #[.int .i64 a1_0, .slice A1_1 l1_1.length c1_1]] rfl (by (try simp only [List.map_toArray, List.map_cons, List.map_nil]); first | done | rfl | (simp only [List.length_drop, List.length_take]; rfl)) ?_; (with_reducible refine (impl_Table_merge.calls kj2 gb261 t257 (fun k_ => some k_ = (.slice Ao34 t258.length co34 : Value).ownBlock) (.slice Ao34 t258.length co34) t258 a1_0 _ _ l1_1 t262 t263 t264 w _ ?side1 ?side2 ?side3 ?side4 ?side5 ?side6 A24.out).mono ?_); (case side1 => exact bel0); (case side2 => exact blk_nw BK261.out); (case side3 => exact GE261.out); (case side4 => exact Kd.R_tight rfl HO260.out); (case side5 => exact Kd.C_kept_came k82_heap HR1_1.out (by exact bel0) (fun k_ hs_ => Or.elim hs_ (fun hs_ => (fun e_ => Kd.R_base HO260.out k_ e_.symm) hs_) (fun e_ => (by rw [e_]; exact GE261.out)))); (case side6 => exact HC1_1.out); rintro e w38 ⟨rfl, v265, ho0, hi, hb, hkp⟩; refine ⟨_, rfl, ?_⟩; have n_ := an (blk_kept (by exact blk_nw BK252.out) hkp (fun hs_ => Or.elim hs_ (fun hs_ => (fun e_ => (Kd.R_ne HO260.out BK252.out (by decide)) e_) hs_) (fun e_ => NB252_261.out e_))) (an (blk_kept (by exact blk_nw BK253.out) hkp (fun hs_ => Or.elim hs_ (fun hs_ => (fun e_ => (Kd.R_ne HO260.out BK253.out (by decide)) e_) hs_) (fun e_ => NB253_261.out e_))) (an (blk_kept (by exact blk_nw BK254.out) hkp (fun hs_ => Or.elim hs_ (fun hs_ => (fun e_ => (Kd.R_ne HO260.out BK254.out (by decide)) e_) hs_) (fun e_ => NB254_261.out e_))) (an (hi) (an (Kd.R_mono (ok' := fun k_ => True) ho0 (fun k_ hk_ => trivial)) (an (hb) (trivial)))))); clear BK252 BK253 BK254 BK261 HB HO260; obtain ⟨BK252, BK253, BK254, BK261, HO266, HB, -⟩ := n_; (try clear hb); (try clear hkp); (try clear ho0); obtain ⟨hcz39_0, hcz39_1⟩ := blkz2 BK261.out; have hfz39_0 := blkf BK261.out; obtain ⟨hcz40_0, hcz40_1⟩ := blkz2 BK254.out; have hfz40_0 := blkf BK254.out; obtain ⟨Ao41, co41, eo41⟩ := Kd.R_slice HO266.out; subst eo41) | ((with_reducible refine gate_store (t := 41) (p := 4) rfl ?_); refine store_event (t := 41) (p := 4) (v := ?vo_w42) (w1 := ((w38.setCell ⟨gb254, 0, none⟩ (.int .i64 t263)).setCell ⟨gb254, 1, none⟩ (.slice Ao41 t264.length co41))) ?hg ?ho ?hn ?hr ?_; (case ho => rfl); (case hg => rfl); (case hn => rfl); (case hr => first | (go_simp; done) | (go_simp; rfl)); intro w42 hw; have n0_ : Aside0 (Kd.R k82 82 w42 w.heap.size (fun _ => True) (.slice Ao41 t264.length co41) t264) := ⟨(by rw [hw]; exact (by exact (Kd.R_farN HO266.out BK254.out)))⟩; have n1_ : Aside0 (w42.heap[gb252]? = some (.cells #[.int .i64 a0_0, .slice A0_1 l0_1.length c0_1] 41 (0, 0))) := ⟨(by rw [hw]; exact (by exact blk_kb BK252.out NB252_254.out))⟩; have n2_ : Aside0 (w42.heap[gb253]? = some (.cells #[.int .i64 a1_0, .slice A1_1 l1_1.length c1_1] 41 (0, 0))) := ⟨(by rw [hw]; exact (by exact blk_kb BK253.out NB253_254.out))⟩; have n3_ : Aside0 (w42.heap[gb254]? = some (.cells #[.int .i64 t263, .slice Ao41 t264.length co41] 41 (0, 0))) := ⟨(by rw [hw]; exact (by (with_reducible repeat (first | refine blk_drewN ?_ _ | refine blk_drew ?_ | refine blk_alloc ?_ _)); exact blk_fill2 BK254.out))⟩; have n4_ : Aside0 (w42.heap[gb261]? = some (.cells #[.int .i64 t263, .slice Ao41 t264.length co41] 41 (0, 0))) := ⟨(by rw [hw]; exact (by exact blk_kb BK261.out NB261_254.out))⟩; have n5_ : Aside0 (Below w.heap.size w w42) := ⟨(by rw [hw]; exact (by exact bel0))⟩; clear hw; clear HO266; clear BK252; clear BK253; clear BK254; clear BK261; clear HB; have HO266 := n0_; have BK252 := n1_; have BK253 := n2_; have BK254 := n3_; have BK261 := n4_; have HB := n5_; clear n0_ n1_ n2_ n3_ n4_ n5_))
    refine bodyPost_ret (results_ct rfl _ _ gb254 41 #[.int .i64 t263, .slice Ao41 t264.length co41] (0, 0) _ rfl (by exact blk_nw BK254.out) Try.underlying41 rfl (by kernel_rfl)) rfl ?_
    exact ⟨_, by first | rfl | (simp [errW_none, errW_some] <;> rfl) | (simp [*, errW_none, errW_some] <;> rfl), by exact Kd.R_nw HO266.out, by exact bel0⟩

end Go.Proofs.Ytigoajblljolcaa.XFnExactMerge
