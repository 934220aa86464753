-- Written by this session's own program (xprint.py) over the kit's print.
import Derived.Test.YtgkoinnjpcpccaaXFnChecksx0
import Derived.Test.YtgkoinnjpcpccaaXFnChecksx6
namespace Go.Proofs.Ytgkoinnjpcpccaa.XFnChecks
open Go.RowKit Go.Proofs.YtgkoinnjpcpccaaW.PrintWords Go.Proofs.YtgkoinnjpcpccaaW.PrintLast Go.Proofs.YtgkoinnjpcpccaaW.PrintMore
attribute [local go_sem] max2_int min2_int max_two min_two max_three min_three max_four min_four   -- for this text's walks alone
set_option linter.unusedVariables false
set_option linter.unusedSimpArgs false

/-! ### impl_CheckFail: function 10 -/
def impl_CheckFail.f (k : Nat) (l0_0 : List Int) (a0_1 : Int) (a0_2 : Int) (a0_3 : Int) (a0_4 : Int) (a0_5 : Int) : Option (List Int × Int × Int × Int × Int × Int × Bool) := (impl_CheckOk.f k l0_0 a0_1 a0_2 a0_3 a0_4 a0_5).bind fun t377 => (if t377 = true then ((impl_Check_own.f l0_0 a0_1 a0_2 a0_3 a0_4 a0_5).bind fun bt378 => (if (mn a0_2 (wrap64 (a0_5 + 1))) < a0_2 then (if a0_3 = 2 then (some (bt378.1, bt378.2.1, bt378.2.2.1, 2, bt378.2.2.2.2.1, mn a0_2 (wrap64 (a0_5 + 1)), (2 != a0_3))) else (some (bt378.1, bt378.2.1, bt378.2.2.1, 1, bt378.2.2.2.2.1, mn a0_2 (wrap64 (a0_5 + 1)), (1 != a0_3)))) else (some (bt378.1, bt378.2.1, bt378.2.2.1, 2, bt378.2.2.2.2.1, mn a0_2 (wrap64 (a0_5 + 1)), (2 != a0_3))))) else (some (([] : List Int), 0, 0, 0, 0, 0, false)))
theorem impl_CheckFail.mono : ∀ a0 a1 a2 a3 a4 a5 k, LeO (impl_CheckFail.f k a0 a1 a2 a3 a4 a5) (impl_CheckFail.f (k + 1) a0 a1 a2 a3 a4 a5) := by
 intro a0 a1 a2 a3 a4 a5 k
 unfold impl_CheckFail.f
 repeat' first
   | (with_reducible exact impl_CheckOk.mono _ _ _ _ _ _ _)
   | (with_reducible exact LeO.refl _)
   | (with_reducible exact LeO.none _)
   | (with_reducible refine LeO.ite ?_ ?_)
   | (with_reducible refine LeO.bind ?_ (fun _ => ?_))
   | exact impl_CheckOk.mono _ _ _ _ _ _ _
   | exact LeO.none _
   | refine LeO.ite ?_ ?_
   | refine LeO.bind ?_ (fun _ => ?_)
def impl_CheckFail.T8 : Bool × List (List Nat × List Nat) := (true, [([], []), ([], []), ([1], [1]), ([], []), ([3], [3]), ([2, 4], [2, 4]), ([0, 0], [0]), ([5, 6, 0, 1, 2, 3, 4, 5, 6], [5])])
def impl_CheckFail.B8 : List Nat := [0, 0, 2, 0, 8, 30, 1, 127]
theorem impl_CheckFail.tab8 : rtab .any (opsOf Try.f10 8) = impl_CheckFail.T8 := by kernel_rfl
theorem impl_CheckFail.bits8 : waitsOk impl_CheckFail.T8.2 impl_CheckFail.B8 = true := by kernel_rfl
set_option maxHeartbeats 8000000 in
set_option maxRecDepth 100000 in
theorem impl_CheckFail.calls (k : Nat) (A0_0 : Option Addr) (c0_0 : Nat) (l0_0 : List Int) (a0_1 : Int) (a0_2 : Int) (a0_3 : Int) (a0_4 : Int) (a0_5 : Int) (r1 : List Int) (r2 : Int) (r3 : Int) (r4 : Int) (r5 : Int) (r6 : Int) (r7 : Bool) (w : World) (hr0_0 : Kd.C (Kd.int .u8) w A0_0 l0_0.length l0_0) (hc0_0 : l0_0.length ≤ c0_0) (h : impl_CheckFail.f k l0_0 a0_1 a0_2 a0_3 a0_4 a0_5 = some (r1, r2, r3, r4, r5, r6, r7)) :
  Calls Try.prog 10 #[.agg #[.slice A0_0 l0_0.length c0_0, .int .i64 a0_1, .int .i64 a0_2, .int .i64 a0_3, .int .i64 a0_4, .int .i64 a0_5]] w fun e w' => ∃ v0_ : Value, e = .returned (.tuple #[.agg #[v0_, .int .i64 r2, .int .i64 r3, .int .i64 r4, .int .i64 r5, .int .i64 r6], .bool r7]) ∧ Kd.R (Kd.int .u8) 5 w' w.heap.size (fun _ => True) v0_ r1 ∧ Below w.heap.size w w' := by
 have hu24 := Try.underlying24
 have HR0_0 := Aside0.mk hr0_0; have HC0_0 := Aside0.mk hc0_0; clear hr0_0 hc0_0
 have HB := Aside0.mk (Below.refl w.heap.size w)
 have H : ((impl_CheckOk.f k l0_0 a0_1 a0_2 a0_3 a0_4 a0_5).bind fun t377 => (if t377 = true then ((impl_Check_own.f l0_0 a0_1 a0_2 a0_3 a0_4 a0_5).bind fun bt378 => (if (mn a0_2 (wrap64 (a0_5 + 1))) < a0_2 then (if a0_3 = 2 then (some (bt378.1, bt378.2.1, bt378.2.2.1, 2, bt378.2.2.2.2.1, mn a0_2 (wrap64 (a0_5 + 1)), (2 != a0_3))) else (some (bt378.1, bt378.2.1, bt378.2.2.1, 1, bt378.2.2.2.2.1, mn a0_2 (wrap64 (a0_5 + 1)), (1 != a0_3)))) else (some (bt378.1, bt378.2.1, bt378.2.2.1, 2, bt378.2.2.2.2.1, mn a0_2 (wrap64 (a0_5 + 1)), (2 != a0_3))))) else (some (([] : List Int), 0, 0, 0, 0, 0, false)))) = some (r1, r2, r3, r4, r5, r6, r7) := h
 clear h; replace H := Option.bind_eq_some_iff.mp H; obtain ⟨t377, A20, H⟩ := H; have A2 := Aside0.mk A20; clear A20; go_enter Try.func10, Try.ntmps10
 replace H := Aside0.mk H
 go_wp2_with (first | ((with_reducible refine gate_dst (N := 1) rfl ?_); refine box_event ?hg (N := 1) ?hd (cs := #[.slice A0_0 l0_0.length c0_0, .int .i64 a0_1, .int .i64 a0_2, .int .i64 a0_3, .int .i64 a0_4, .int .i64 a0_5]) (t := 24) ?hr ?_; (case hd => rfl); (case hg => rfl); (case hr => first | (go_simp; done) | (go_simp; rfl)); intro gb375 hg w3 hbox hb; have n_ := an (below_step (by exact bel0) hb) (an (hbox) (an ((by rw [hg]; exact (below_size (by exact bel0)) : w.heap.size ≤ gb375)) (an ((by rw [hg]; exact (below_size (by exact bel0)) : w.heap.size ≤ gb375)) (trivial)))); clear HB; obtain ⟨HB, BK375, GW375, GE375, -⟩ := n_; clear hb hbox hg) | ((with_reducible refine gate_dst (N := 2) rfl ?_); refine box_event ?hg (N := 2) ?hd (cs := #[.slice none 0 0, .int .i64 0, .int .i64 0, .int .i64 0, .int .i64 0, .int .i64 0]) (t := 24) ?hr ?_; (case hd => rfl); (case hg => rfl); (case hr => first | (go_simp; done) | (go_simp; rfl)); intro gb376 hg w4 hbox hb; have n_ := an (blk_below (blk_nw BK375.out) hb) (an (below_step (by exact bel0) hb) (an (hbox) (an ((by rw [hg]; exact (below_size (by exact bel0)) : w.heap.size ≤ gb376)) (an ((by rw [hg]; exact (below_size (by exact bel0)) : w.heap.size ≤ gb376)) (an ((by rw [hg]; exact Nat.ne_of_lt (blk_lt (blk_nw BK375.out)) : gb375 ≠ gb376)) (an ((by rw [hg]; exact Nat.ne_of_gt (blk_lt (blk_nw BK375.out)) : gb376 ≠ gb375)) (trivial))))))); clear BK375 HB; obtain ⟨BK375, HB, BK376, GW376, GE376, NB375_376, NB376_375, -⟩ := n_; clear hb hbox hg; have hnb5 := NB375_376.out; have hnc5 := NB376_375.out; obtain ⟨hcz6_0, hcz6_1, hcz6_2, hcz6_3, hcz6_4, hcz6_5⟩ := blkz6 BK375.out; have hfz6_0 := blkf BK375.out) | ((with_reducible refine gate_callee (f := 9) rfl ?_); refine goesL_ (some 6) rfl rfl Try.func9 (by kernel_rfl) rfl #[.agg #[.slice A0_0 l0_0.length c0_0, .int .i64 a0_1, .int .i64 a0_2, .int .i64 a0_3, .int .i64 a0_4, .int .i64 a0_5]] rfl (by (try simp only [List.map_toArray, List.map_cons, List.map_nil]); first | done | rfl | (simp only [List.length_drop, List.length_take]; rfl)) ?_; (with_reducible refine (impl_CheckOk.calls k _ _ l0_0 a0_1 a0_2 a0_3 a0_4 a0_5 t377 _ ?side1 ?side2 A2.out).mono ?_); (case side1 => repeat (first | exact (Kd.C_below HR0_0.out HB.out) | (with_reducible refine Kd.C_alloc ?_ _) | (with_reducible refine Kd.C_drewN ?_ _) | (with_reducible refine Kd.C_drew ?_))); (case side2 => exact HC0_0.out); rintro e w7 ⟨rfl, hb⟩; refine ⟨_, rfl, ?_⟩; have n_ := an (blk_below (blk_nw BK375.out) hb) (an (blk_below (blk_nw BK376.out) hb) (an (below_step (by exact bel0) hb) (trivial))); clear BK375 BK376 HB; obtain ⟨BK375, BK376, HB, -⟩ := n_; (try clear hb); (try clear hb2); (try clear hk); (try clear hi); refine Stop.out ?_))
 refine Stop.mk ?_
 replace H := H.out
 by_cases c8 : t377 = true
 ·subst c8; rw [if_pos rfl] at H; replace H := Option.bind_eq_some_iff.mp H
  obtain ⟨⟨t378, t381, t382, t383, t384, t385⟩, A90, H⟩ := H
  replace H : (if (mn a0_2 (wrap64 (a0_5 + 1))) < a0_2 then (if a0_3 = 2 then (some (t378, t381, t382, 2, t384, mn a0_2 (wrap64 (a0_5 + 1)), (2 != a0_3))) else (some (t378, t381, t382, 1, t384, mn a0_2 (wrap64 (a0_5 + 1)), (1 != a0_3)))) else (some (t378, t381, t382, 2, t384, mn a0_2 (wrap64 (a0_5 + 1)), (2 != a0_3)))) = some (r1, r2, r3, r4, r5, r6, r7) := H
  have A9 := Aside0.mk A90; clear A90
  obtain ⟨ji10, hji10⟩ : ∃ j_ : Int, (mn a0_2 (wrap64 (a0_5 + 1))) = j_ := ⟨_, rfl⟩
  replace H : (if (ji10) < a0_2 then (if a0_3 = 2 then (some (t378, t381, t382, 2, t384, ji10, (2 != a0_3))) else (some (t378, t381, t382, 1, t384, ji10, (1 != a0_3)))) else (some (t378, t381, t382, 2, t384, ji10, (2 != a0_3)))) = some (r1, r2, r3, r4, r5, r6, r7) := by first | (rw [hji10] at H; exact H) | (simp only [hji10] at H ⊢; exact H)
  (try rw [hji10] at A9)
  have hji10_ : (if (wrap64 (a0_5 + 1)) < a0_2 then (wrap64 (a0_5 + 1)) else a0_2) = ji10 := hji10
  have hnb11 := NB375_376.out; have hnc11 := NB376_375.out; obtain ⟨hcz12_0, hcz12_1, hcz12_2, hcz12_3, hcz12_4, hcz12_5⟩ := blkz6 BK375.out; have hfz12_0 := blkf BK375.out
  replace H := Aside0.mk H
  go_wp2_with (first | ((with_reducible refine gate_callee (f := 18) rfl ?_); refine goesL_ (some 10) rfl rfl Try.func18 (by kernel_rfl) rfl #[.agg #[.slice A0_0 l0_0.length c0_0, .int .i64 a0_1, .int .i64 a0_2, .int .i64 a0_3, .int .i64 a0_4, .int .i64 a0_5]] rfl (by (try simp only [List.map_toArray, List.map_cons, List.map_nil]); first | done | rfl | (simp only [List.length_drop, List.length_take]; rfl)) ?_; (with_reducible refine (impl_Check_own.calls _ _ l0_0 a0_1 a0_2 a0_3 a0_4 a0_5 t378 t381 t382 t383 t384 t385 _ ?side1 ?side2 A9.out).mono ?_); (case side1 => repeat (first | exact (Kd.C_below HR0_0.out HB.out) | (with_reducible refine Kd.C_alloc ?_ _) | (with_reducible refine Kd.C_drewN ?_ _) | (with_reducible refine Kd.C_drew ?_))); (case side2 => exact HC0_0.out); rintro e w13 ⟨v379, rfl, ho0, hb⟩; refine ⟨_, rfl, ?_⟩; have n_ := an (Kd.R_lower ho0 (below_size (by exact bel0))) (an (blk_below (blk_nw BK375.out) hb) (an (blk_below (blk_nw BK376.out) hb) (an (below_step (by exact bel0) hb) (trivial)))); clear BK375 BK376 HB; obtain ⟨HO380, BK375, BK376, HB, -⟩ := n_; (try clear hb); (try clear hb2); (try clear hk); (try clear hi); (try clear ho0)) | ((with_reducible refine gate_dst (N := 4) rfl ?_); refine box_event ?hg (N := 4) ?hd (cs := #[.slice none 0 0, .int .i64 0, .int .i64 0, .int .i64 0, .int .i64 0, .int .i64 0]) (t := 24) ?hr ?_; (case hd => rfl); (case hg => rfl); (case hr => first | (go_simp; done) | (go_simp; rfl)); intro gb386 hg w14 hbox hb; have n_ := an (Kd.R_below (by exact Kd.R_nw HO380.out) hb) (an (blk_below (blk_nw BK375.out) hb) (an (blk_below (blk_nw BK376.out) hb) (an (below_step (by exact bel0) hb) (an (hbox) (an ((by rw [hg]; exact (below_size (by exact bel0)) : w.heap.size ≤ gb386)) (an ((by rw [hg]; exact (below_size (by exact bel0)) : w.heap.size ≤ gb386)) (an ((by rw [hg]; exact Nat.ne_of_lt (blk_lt (blk_nw BK375.out)) : gb375 ≠ gb386)) (an ((by rw [hg]; exact Nat.ne_of_gt (blk_lt (blk_nw BK375.out)) : gb386 ≠ gb375)) (an ((by rw [hg]; exact Nat.ne_of_lt (blk_lt (blk_nw BK376.out)) : gb376 ≠ gb386)) (an ((by rw [hg]; exact Nat.ne_of_gt (blk_lt (blk_nw BK376.out)) : gb386 ≠ gb376)) (trivial))))))))))); clear HO380 BK375 BK376 HB; obtain ⟨HO380, BK375, BK376, HB, BK386, GW386, GE386, NB375_386, NB386_375, NB376_386, NB386_376, -⟩ := n_; clear hb hbox hg; obtain ⟨Ao15, co15, eo15⟩ := Kd.R_slice HO380.out; subst eo15; have hnb16 := NB386_375.out; have hnc16 := NB375_386.out; have hnb17 := NB386_376.out; have hnc17 := NB376_386.out; obtain ⟨hcz18_0, hcz18_1, hcz18_2, hcz18_3, hcz18_4, hcz18_5⟩ := blkz6 BK386.out; have hfz18_0 := blkf BK386.out; obtain ⟨hcz19_0, hcz19_1, hcz19_2, hcz19_3, hcz19_4, hcz19_5⟩ := blkz6 BK375.out; have hfz19_0 := blkf BK375.out; refine Stop.out ?_))
  refine Stop.mk ?_
  replace H := H.out
  by_cases c20 : (ji10) < a0_2
  ·rw [if_pos c20] at H; have c20b0 : decide ((ji10) < a0_2) = true := decide_eq_true c20; clear c20; (try simp only [c20b0])
   by_cases c21 : a0_3 = 2
   ·rw [if_pos c21] at H; have c21b0 : (a0_3 == 2) = true := beq_iff_eq.mpr c21; have c21b1 : (a0_3 != 2) = false := bne_eq_false_iff_eq.mpr c21; clear c21; simp only [Option.some.injEq, Prod.mk.injEq] at H; obtain ⟨rfl, rfl, rfl, rfl, rfl, rfl, rfl⟩ := H; have hnb22 := NB375_376.out; have hnc22 := NB376_375.out; have hnb23 := NB375_386.out; have hnc23 := NB386_375.out; obtain ⟨hcz24_0, hcz24_1, hcz24_2, hcz24_3, hcz24_4, hcz24_5⟩ := blkz6 BK375.out; have hfz24_0 := blkf BK375.out; have hnb25 := NB386_376.out; have hnc25 := NB376_386.out; obtain ⟨hcz26_0, hcz26_1, hcz26_2, hcz26_3, hcz26_4, hcz26_5⟩ := blkz6 BK386.out; have hfz26_0 := blkf BK386.out
    try go_wp2
    have n0_ : Aside0 (Kd.R (Kd.int .u8) 5 ((((((((w14.setCell ⟨gb386, 0, none⟩ (.slice Ao15 t378.length co15)).setCell ⟨gb386, 1, none⟩ (.int .i64 t381)).setCell ⟨gb386, 2, none⟩ (.int .i64 t382)).setCell ⟨gb386, 3, none⟩ (.int .i64 t383)).setCell ⟨gb386, 4, none⟩ (.int .i64 t384)).setCell ⟨gb386, 5, none⟩ (.int .i64 t385)).setCell ⟨gb386, 5, none⟩ (.int .i64 ji10)).setCell ⟨gb386, 3, none⟩ (.int .i64 2)) w.heap.size (fun _ => True) (.slice Ao15 t378.length co15) t378) := ⟨by exact (Kd.R_farN HO380.out BK386.out)⟩
    have n1_ : Aside0 (((((((((w14.setCell ⟨gb386, 0, none⟩ (.slice Ao15 t378.length co15)).setCell ⟨gb386, 1, none⟩ (.int .i64 t381)).setCell ⟨gb386, 2, none⟩ (.int .i64 t382)).setCell ⟨gb386, 3, none⟩ (.int .i64 t383)).setCell ⟨gb386, 4, none⟩ (.int .i64 t384)).setCell ⟨gb386, 5, none⟩ (.int .i64 t385)).setCell ⟨gb386, 5, none⟩ (.int .i64 ji10)).setCell ⟨gb386, 3, none⟩ (.int .i64 2)).heap[gb375]? = some (.cells #[.slice A0_0 l0_0.length c0_0, .int .i64 a0_1, .int .i64 a0_2, .int .i64 a0_3, .int .i64 a0_4, .int .i64 a0_5] 24 (0, 0))) := ⟨by exact blk_kb BK375.out NB375_386.out⟩
    have n2_ : Aside0 (((((((((w14.setCell ⟨gb386, 0, none⟩ (.slice Ao15 t378.length co15)).setCell ⟨gb386, 1, none⟩ (.int .i64 t381)).setCell ⟨gb386, 2, none⟩ (.int .i64 t382)).setCell ⟨gb386, 3, none⟩ (.int .i64 t383)).setCell ⟨gb386, 4, none⟩ (.int .i64 t384)).setCell ⟨gb386, 5, none⟩ (.int .i64 t385)).setCell ⟨gb386, 5, none⟩ (.int .i64 ji10)).setCell ⟨gb386, 3, none⟩ (.int .i64 2)).heap[gb376]? = some (.cells #[.slice none 0 0, .int .i64 0, .int .i64 0, .int .i64 0, .int .i64 0, .int .i64 0] 24 (0, 0))) := ⟨by exact blk_kb BK376.out NB376_386.out⟩
    have n3_ : Aside0 (((((((((w14.setCell ⟨gb386, 0, none⟩ (.slice Ao15 t378.length co15)).setCell ⟨gb386, 1, none⟩ (.int .i64 t381)).setCell ⟨gb386, 2, none⟩ (.int .i64 t382)).setCell ⟨gb386, 3, none⟩ (.int .i64 t383)).setCell ⟨gb386, 4, none⟩ (.int .i64 t384)).setCell ⟨gb386, 5, none⟩ (.int .i64 t385)).setCell ⟨gb386, 5, none⟩ (.int .i64 ji10)).setCell ⟨gb386, 3, none⟩ (.int .i64 2)).heap[gb386]? = some (.cells #[.slice Ao15 t378.length co15, .int .i64 t381, .int .i64 t382, .int .i64 2, .int .i64 t384, .int .i64 ji10] 24 (0, 0))) := ⟨by (with_reducible repeat (first | refine blk_drewN ?_ _ | refine blk_drew ?_ | refine blk_alloc ?_ _)); refine blk_put (cs := #[.slice Ao15 t378.length co15, .int .i64 t381, .int .i64 t382, .int .i64 t383, .int .i64 t384, .int .i64 ji10]) ?_ 3 _ rfl; (with_reducible repeat (first | refine blk_drewN ?_ _ | refine blk_drew ?_ | refine blk_alloc ?_ _)); refine blk_put (cs := #[.slice Ao15 t378.length co15, .int .i64 t381, .int .i64 t382, .int .i64 t383, .int .i64 t384, .int .i64 t385]) ?_ 5 _ rfl; (with_reducible repeat (first | refine blk_drewN ?_ _ | refine blk_drew ?_ | refine blk_alloc ?_ _)); refine blk_put (cs := #[.slice Ao15 t378.length co15, .int .i64 t381, .int .i64 t382, .int .i64 t383, .int .i64 t384, .int .i64 0]) ?_ 5 _ rfl; (with_reducible repeat (first | refine blk_drewN ?_ _ | refine blk_drew ?_ | refine blk_alloc ?_ _)); refine blk_put (cs := #[.slice Ao15 t378.length co15, .int .i64 t381, .int .i64 t382, .int .i64 t383, .int .i64 0, .int .i64 0]) ?_ 4 _ rfl; (with_reducible repeat (first | refine blk_drewN ?_ _ | refine blk_drew ?_ | refine blk_alloc ?_ _)); refine blk_put (cs := #[.slice Ao15 t378.length co15, .int .i64 t381, .int .i64 t382, .int .i64 0, .int .i64 0, .int .i64 0]) ?_ 3 _ rfl; (with_reducible repeat (first | refine blk_drewN ?_ _ | refine blk_drew ?_ | refine blk_alloc ?_ _)); refine blk_put (cs := #[.slice Ao15 t378.length co15, .int .i64 t381, .int .i64 0, .int .i64 0, .int .i64 0, .int .i64 0]) ?_ 2 _ rfl; (with_reducible repeat (first | refine blk_drewN ?_ _ | refine blk_drew ?_ | refine blk_alloc ?_ _)); refine blk_put (cs := #[.slice Ao15 t378.length co15, .int .i64 0, .int .i64 0, .int .i64 0, .int .i64 0, .int .i64 0]) ?_ 1 _ rfl; (with_reducible repeat (first | refine blk_drewN ?_ _ | refine blk_drew ?_ | refine blk_alloc ?_ _)); refine blk_put (cs := #[.slice none 0 0, .int .i64 0, .int .i64 0, .int .i64 0, .int .i64 0, .int .i64 0]) ?_ 0 _ rfl; (with_reducible repeat (first | refine blk_drewN ?_ _ | refine blk_drew ?_ | refine blk_alloc ?_ _)); exact BK386.out⟩
    have n4_ : Aside0 (Below w.heap.size w ((((((((w14.setCell ⟨gb386, 0, none⟩ (.slice Ao15 t378.length co15)).setCell ⟨gb386, 1, none⟩ (.int .i64 t381)).setCell ⟨gb386, 2, none⟩ (.int .i64 t382)).setCell ⟨gb386, 3, none⟩ (.int .i64 t383)).setCell ⟨gb386, 4, none⟩ (.int .i64 t384)).setCell ⟨gb386, 5, none⟩ (.int .i64 t385)).setCell ⟨gb386, 5, none⟩ (.int .i64 ji10)).setCell ⟨gb386, 3, none⟩ (.int .i64 2))) := ⟨by exact bel0⟩
    (try clear HO380); (try clear BK375); (try clear BK376); (try clear BK386); (try clear HB)
    generalize ((((((((w14.setCell ⟨gb386, 0, none⟩ (.slice Ao15 t378.length co15)).setCell ⟨gb386, 1, none⟩ (.int .i64 t381)).setCell ⟨gb386, 2, none⟩ (.int .i64 t382)).setCell ⟨gb386, 3, none⟩ (.int .i64 t383)).setCell ⟨gb386, 4, none⟩ (.int .i64 t384)).setCell ⟨gb386, 5, none⟩ (.int .i64 t385)).setCell ⟨gb386, 5, none⟩ (.int .i64 ji10)).setCell ⟨gb386, 3, none⟩ (.int .i64 2)) = w27 at n0_ n1_ n2_ n3_ n4_ ⊢
    have HO380 := n0_
    have BK375 := n1_
    have BK376 := n2_
    have BK386 := n3_
    have HB := n4_
    clear n0_ n1_ n2_ n3_ n4_
    have n_ := an (Kd.R_drew HO380.out) (an (blk_drew BK375.out) (an (blk_drew BK376.out) (an (blk_drew BK386.out) (an (below_drew1 HB.out) (trivial)))))
    clear HO380 BK375 BK376 BK386 HB
    obtain ⟨HO380, BK375, BK376, BK386, HB, -⟩ := n_
    refine start_ (n := 8) (S := fun w' => w'.cell? ⟨gb386, 0, none⟩ = some (.slice Ao15 t378.length co15) ∧ w'.cell? ⟨gb386, 1, none⟩ = some (.int .i64 t381) ∧ w'.cell? ⟨gb386, 2, none⟩ = some (.int .i64 t382) ∧ w'.cell? ⟨gb386, 3, none⟩ = some (.int .i64 2) ∧ w'.cell? ⟨gb386, 4, none⟩ = some (.int .i64 t384) ∧ w'.cell? ⟨gb386, 5, none⟩ = some (.int .i64 ji10) ∧ w'.cell? ⟨gb375, 0, none⟩ = some (.slice A0_0 l0_0.length c0_0) ∧ w'.cell? ⟨gb375, 1, none⟩ = some (.int .i64 a0_1) ∧ w'.cell? ⟨gb375, 2, none⟩ = some (.int .i64 a0_2) ∧ w'.cell? ⟨gb375, 3, none⟩ = some (.int .i64 a0_3) ∧ w'.cell? ⟨gb375, 4, none⟩ = some (.int .i64 a0_4) ∧ w'.cell? ⟨gb375, 5, none⟩ = some (.int .i64 a0_5)) (ds := []) #[false, false, false, false, false, false, false, false] (by kernel_rfl) rfl rfl ⟨(blk_cell BK386.out 0).trans rfl, (blk_cell BK386.out 1).trans rfl, (blk_cell BK386.out 2).trans rfl, (blk_cell BK386.out 3).trans rfl, (blk_cell BK386.out 4).trans rfl, (blk_cell BK386.out 5).trans rfl, (blk_cell BK375.out 0).trans rfl, (blk_cell BK375.out 1).trans rfl, (blk_cell BK375.out 2).trans rfl, (blk_cell BK375.out 3).trans rfl, (blk_cell BK375.out 4).trans rfl, (blk_cell BK375.out 5).trans rfl⟩ (fun hHeld => ?_); refine with_tabW impl_CheckFail.tab8 impl_CheckFail.bits8 (fun HT_ HW_ => ?_)
    generalize w27.drew = w28 at HO380 BK375 BK376 BK386 HB hHeld ⊢
    refine pure_ (i := 1) (N := some 31) (v := ?_) (a' := ?_) #[false, true, false, false, false, false, false, false] rfl rfl (any_of HT_.out (by kernel_rfl)) (fun _ _ _ h => h) (Or.inl ⟨by rfl, ?_⟩) ?_ ?_
    rotate_left
    ·intro w'
     go_simp
     with_reducible rfl
    rotate_left
    ·simp only [Act.put, List.setIfInBounds_toArray, List.set_cons_zero, List.set_cons_succ, i64_w, i32_w]
     rfl
    refine pure_ (i := 3) (N := some 33) (v := ?_) (a' := ?_) #[false, true, false, true, false, false, false, false] rfl rfl (any_of HT_.out (by kernel_rfl)) (fun _ _ _ h => h) (Or.inl ⟨by rfl, ?_⟩) ?_ ?_
    rotate_left
    ·intro w'
     go_simp
     with_reducible rfl
    rotate_left
    ·simp only [Act.put, List.setIfInBounds_toArray, List.set_cons_zero, List.set_cons_succ, i64_w, i32_w]
     rfl
    refine take_ (i := 0) (N := some 30) (v := ?_) (a' := ?_) #[true, true, false, true, false, false, false, false] rfl rfl (take_ofW HT_.out HW_.out (by kernel_rfl)) (fun _ _ _ h => h) (Or.inl ⟨by rfl, ?_⟩) hHeld ?_ ?_
    rotate_left
    ·rintro w' ⟨s0, s1, s2, s3, s4, s5, s6, s7, s8, s9, s10, s11⟩
     go_simp
     with_reducible rfl
    rotate_left
    ·simp only [Act.put, List.setIfInBounds_toArray, List.set_cons_zero, List.set_cons_succ, i64_w, i32_w]
     rfl
    refine take_ (i := 2) (N := some 32) (v := ?_) (a' := ?_) #[true, true, true, true, false, false, false, false] rfl rfl (take_ofW HT_.out HW_.out (by kernel_rfl)) (fun _ _ _ h => h) (Or.inl ⟨by rfl, ?_⟩) hHeld ?_ ?_
    rotate_left
    ·rintro w' ⟨s0, s1, s2, s3, s4, s5, s6, s7, s8, s9, s10, s11⟩
     go_simp
     with_reducible rfl
    rotate_left
    ·simp only [Act.put, List.setIfInBounds_toArray, List.set_cons_zero, List.set_cons_succ, i64_w, i32_w]
     rfl
    refine take_ (i := 4) (N := some 34) (v := ?_) (a' := ?_) #[true, true, true, true, true, false, false, false] rfl rfl (take_ofW HT_.out HW_.out (by kernel_rfl)) (fun _ _ _ h => h) (Or.inl ⟨by rfl, ?_⟩) hHeld ?_ ?_
    rotate_left
    ·rintro w' ⟨s0, s1, s2, s3, s4, s5, s6, s7, s8, s9, s10, s11⟩
     go_simp
     with_reducible rfl
    rotate_left
    ·simp only [Act.put, List.setIfInBounds_toArray, List.set_cons_zero, List.set_cons_succ, i64_w, i32_w]
     rfl
    refine pure_ (i := 5) (N := some 35) (v := ?_) (a' := ?_) #[true, true, true, true, true, true, false, false] rfl rfl (any_of HT_.out (by kernel_rfl)) (fun _ _ _ h => h) (Or.inl ⟨by rfl, ?_⟩) ?_ ?_
    rotate_left
    ·intro w'
     go_simp
     with_reducible rfl
    rotate_left
    ·simp only [Act.put, List.setIfInBounds_toArray, List.set_cons_zero, List.set_cons_succ, i64_w, i32_w]
     rfl
    refine one_ (i := 6) (N := none) #[true, true, true, true, true, true, true, false] rfl rfl (one_of HT_.out (by kernel_rfl)) (by decide) (fun K hK => ?_)
    have hs29 : w28.cell? ⟨gb376, 0, none⟩ = some (.slice none 0 0) := (blk_cell BK376.out 0).trans rfl
    have hfs29 := blk_frozen BK376.out 0
    have hns29_0 := NB375_376.out; have hns29_2 := NB386_376.out; have hms29_0 := NB376_375.out; have hms29_2 := NB376_386.out
    have hs30 : w28.cell? ⟨gb376, 1, none⟩ = some (.int .i64 0) := (blk_cell BK376.out 1).trans rfl
    have hfs30 := blk_frozen BK376.out 1
    have hns30_0 := NB375_376.out; have hns30_2 := NB386_376.out; have hms30_0 := NB376_375.out; have hms30_2 := NB376_386.out
    have hs31 : w28.cell? ⟨gb376, 2, none⟩ = some (.int .i64 0) := (blk_cell BK376.out 2).trans rfl
    have hfs31 := blk_frozen BK376.out 2
    have hns31_0 := NB375_376.out; have hns31_2 := NB386_376.out; have hms31_0 := NB376_375.out; have hms31_2 := NB376_386.out
    have hs32 : w28.cell? ⟨gb376, 3, none⟩ = some (.int .i64 0) := (blk_cell BK376.out 3).trans rfl
    have hfs32 := blk_frozen BK376.out 3
    have hns32_0 := NB375_376.out; have hns32_2 := NB386_376.out; have hms32_0 := NB376_375.out; have hms32_2 := NB376_386.out
    have hs33 : w28.cell? ⟨gb376, 4, none⟩ = some (.int .i64 0) := (blk_cell BK376.out 4).trans rfl
    have hfs33 := blk_frozen BK376.out 4
    have hns33_0 := NB375_376.out; have hns33_2 := NB386_376.out; have hms33_0 := NB376_375.out; have hms33_2 := NB376_386.out
    have hs34 : w28.cell? ⟨gb376, 5, none⟩ = some (.int .i64 0) := (blk_cell BK376.out 5).trans rfl
    have hfs34 := blk_frozen BK376.out 5
    have hns34_0 := NB375_376.out; have hns34_2 := NB386_376.out; have hms34_0 := NB376_375.out; have hms34_2 := NB376_386.out
    refine skip_ (w1 := ?_) (by rfl) rfl ?_ ?_
    rotate_left
    ·go_simp
     rfl
    refine hK.out _ _ ⟨((cell_far (p := ⟨gb376, _, none⟩) NB386_376.out _).trans (((cell_far (p := ⟨gb376, _, none⟩) NB386_376.out _).trans (((cell_far (p := ⟨gb376, _, none⟩) NB386_376.out _).trans (((cell_far (p := ⟨gb376, _, none⟩) NB386_376.out _).trans (((cell_far (p := ⟨gb376, _, none⟩) NB386_376.out _).trans (((cell_far (p := ⟨gb376, _, none⟩) NB386_376.out _).trans (hHeld.1)))))))))))), ((cell_far (p := ⟨gb376, _, none⟩) NB386_376.out _).trans (((cell_far (p := ⟨gb376, _, none⟩) NB386_376.out _).trans (((cell_far (p := ⟨gb376, _, none⟩) NB386_376.out _).trans (((cell_far (p := ⟨gb376, _, none⟩) NB386_376.out _).trans (((cell_far (p := ⟨gb376, _, none⟩) NB386_376.out _).trans (((cell_far (p := ⟨gb376, _, none⟩) NB386_376.out _).trans (hHeld.2.1)))))))))))), ((cell_far (p := ⟨gb376, _, none⟩) NB386_376.out _).trans (((cell_far (p := ⟨gb376, _, none⟩) NB386_376.out _).trans (((cell_far (p := ⟨gb376, _, none⟩) NB386_376.out _).trans (((cell_far (p := ⟨gb376, _, none⟩) NB386_376.out _).trans (((cell_far (p := ⟨gb376, _, none⟩) NB386_376.out _).trans (((cell_far (p := ⟨gb376, _, none⟩) NB386_376.out _).trans (hHeld.2.2.1)))))))))))), ((cell_far (p := ⟨gb376, _, none⟩) NB386_376.out _).trans (((cell_far (p := ⟨gb376, _, none⟩) NB386_376.out _).trans (((cell_far (p := ⟨gb376, _, none⟩) NB386_376.out _).trans (((cell_far (p := ⟨gb376, _, none⟩) NB386_376.out _).trans (((cell_far (p := ⟨gb376, _, none⟩) NB386_376.out _).trans (((cell_far (p := ⟨gb376, _, none⟩) NB386_376.out _).trans (hHeld.2.2.2.1)))))))))))), ((cell_far (p := ⟨gb376, _, none⟩) NB386_376.out _).trans (((cell_far (p := ⟨gb376, _, none⟩) NB386_376.out _).trans (((cell_far (p := ⟨gb376, _, none⟩) NB386_376.out _).trans (((cell_far (p := ⟨gb376, _, none⟩) NB386_376.out _).trans (((cell_far (p := ⟨gb376, _, none⟩) NB386_376.out _).trans (((cell_far (p := ⟨gb376, _, none⟩) NB386_376.out _).trans (hHeld.2.2.2.2.1)))))))))))), ((cell_far (p := ⟨gb376, _, none⟩) NB386_376.out _).trans (((cell_far (p := ⟨gb376, _, none⟩) NB386_376.out _).trans (((cell_far (p := ⟨gb376, _, none⟩) NB386_376.out _).trans (((cell_far (p := ⟨gb376, _, none⟩) NB386_376.out _).trans (((cell_far (p := ⟨gb376, _, none⟩) NB386_376.out _).trans (((cell_far (p := ⟨gb376, _, none⟩) NB386_376.out _).trans (hHeld.2.2.2.2.2.1)))))))))))), ((cell_far (p := ⟨gb376, _, none⟩) NB375_376.out _).trans (((cell_far (p := ⟨gb376, _, none⟩) NB375_376.out _).trans (((cell_far (p := ⟨gb376, _, none⟩) NB375_376.out _).trans (((cell_far (p := ⟨gb376, _, none⟩) NB375_376.out _).trans (((cell_far (p := ⟨gb376, _, none⟩) NB375_376.out _).trans (((cell_far (p := ⟨gb376, _, none⟩) NB375_376.out _).trans (hHeld.2.2.2.2.2.2.1)))))))))))), ((cell_far (p := ⟨gb376, _, none⟩) NB375_376.out _).trans (((cell_far (p := ⟨gb376, _, none⟩) NB375_376.out _).trans (((cell_far (p := ⟨gb376, _, none⟩) NB375_376.out _).trans (((cell_far (p := ⟨gb376, _, none⟩) NB375_376.out _).trans (((cell_far (p := ⟨gb376, _, none⟩) NB375_376.out _).trans (((cell_far (p := ⟨gb376, _, none⟩) NB375_376.out _).trans (hHeld.2.2.2.2.2.2.2.1)))))))))))), ((cell_far (p := ⟨gb376, _, none⟩) NB375_376.out _).trans (((cell_far (p := ⟨gb376, _, none⟩) NB375_376.out _).trans (((cell_far (p := ⟨gb376, _, none⟩) NB375_376.out _).trans (((cell_far (p := ⟨gb376, _, none⟩) NB375_376.out _).trans (((cell_far (p := ⟨gb376, _, none⟩) NB375_376.out _).trans (((cell_far (p := ⟨gb376, _, none⟩) NB375_376.out _).trans (hHeld.2.2.2.2.2.2.2.2.1)))))))))))), ((cell_far (p := ⟨gb376, _, none⟩) NB375_376.out _).trans (((cell_far (p := ⟨gb376, _, none⟩) NB375_376.out _).trans (((cell_far (p := ⟨gb376, _, none⟩) NB375_376.out _).trans (((cell_far (p := ⟨gb376, _, none⟩) NB375_376.out _).trans (((cell_far (p := ⟨gb376, _, none⟩) NB375_376.out _).trans (((cell_far (p := ⟨gb376, _, none⟩) NB375_376.out _).trans (hHeld.2.2.2.2.2.2.2.2.2.1)))))))))))), ((cell_far (p := ⟨gb376, _, none⟩) NB375_376.out _).trans (((cell_far (p := ⟨gb376, _, none⟩) NB375_376.out _).trans (((cell_far (p := ⟨gb376, _, none⟩) NB375_376.out _).trans (((cell_far (p := ⟨gb376, _, none⟩) NB375_376.out _).trans (((cell_far (p := ⟨gb376, _, none⟩) NB375_376.out _).trans (((cell_far (p := ⟨gb376, _, none⟩) NB375_376.out _).trans (hHeld.2.2.2.2.2.2.2.2.2.2.1)))))))))))), ((cell_far (p := ⟨gb376, _, none⟩) NB375_376.out _).trans (((cell_far (p := ⟨gb376, _, none⟩) NB375_376.out _).trans (((cell_far (p := ⟨gb376, _, none⟩) NB375_376.out _).trans (((cell_far (p := ⟨gb376, _, none⟩) NB375_376.out _).trans (((cell_far (p := ⟨gb376, _, none⟩) NB375_376.out _).trans (((cell_far (p := ⟨gb376, _, none⟩) NB375_376.out _).trans (hHeld.2.2.2.2.2.2.2.2.2.2.2))))))))))))⟩ (fun hHeld => ?_)
    clear hK K
    refine pure_ (i := 7) (N := some 3) (v := ?_) (a' := ?_) #[true, true, true, true, true, true, true, true] rfl rfl (any_of HT_.out (by kernel_rfl)) (fun _ _ _ h => h) (Or.inl ⟨by rfl, ?_⟩) ?_ ?_
    rotate_left
    ·intro w'
     go_simp
     with_reducible rfl
    rotate_left
    ·simp only [Act.put, List.setIfInBounds_toArray, List.set_cons_zero, List.set_cons_succ, i64_w, i32_w]
     rfl
    refine done_ (done_of HT_.out (by kernel_rfl)) ?_
    try go_wp2
    refine bodyPost_ret (results_ct rfl _ _ gb376 24 #[.slice Ao15 t378.length co15, .int .i64 t381, .int .i64 t382, .int .i64 2, .int .i64 t384, .int .i64 ji10] (0, 0) _ rfl (by (with_reducible repeat (first | refine blk_drewN ?_ _ | refine blk_drew ?_ | refine blk_alloc ?_ _)); exact blk_fill6 BK376.out) Try.underlying24 rfl (by kernel_rfl)) rfl ?_
    exact ⟨_, by first | rfl | (simp [errW_none, errW_some] <;> rfl) | (simp only [← hji10]; first | rfl | (simp [errW_none, errW_some] <;> rfl)) | (simp [*, errW_none, errW_some] <;> rfl), by exact (Kd.R_farN HO380.out BK376.out), by exact bel0⟩
   ·rw [if_neg c21] at H; have c21b0 : (a0_3 == 2) = false := beq_eq_false_iff_ne.mpr c21; have c21b1 : (a0_3 != 2) = true := bne_iff_ne.mpr c21; simp only [Option.some.injEq, Prod.mk.injEq] at H; obtain ⟨rfl, rfl, rfl, rfl, rfl, rfl, rfl⟩ := H; have hnb35 := NB375_376.out; have hnc35 := NB376_375.out; have hnb36 := NB375_386.out; have hnc36 := NB386_375.out; obtain ⟨hcz37_0, hcz37_1, hcz37_2, hcz37_3, hcz37_4, hcz37_5⟩ := blkz6 BK375.out; have hfz37_0 := blkf BK375.out; have hnb38 := NB386_376.out; have hnc38 := NB376_386.out; obtain ⟨hcz39_0, hcz39_1, hcz39_2, hcz39_3, hcz39_4, hcz39_5⟩ := blkz6 BK386.out; have hfz39_0 := blkf BK386.out
    try go_wp2
    have n0_ : Aside0 (Kd.R (Kd.int .u8) 5 ((((((((w14.setCell ⟨gb386, 0, none⟩ (.slice Ao15 t378.length co15)).setCell ⟨gb386, 1, none⟩ (.int .i64 t381)).setCell ⟨gb386, 2, none⟩ (.int .i64 t382)).setCell ⟨gb386, 3, none⟩ (.int .i64 t383)).setCell ⟨gb386, 4, none⟩ (.int .i64 t384)).setCell ⟨gb386, 5, none⟩ (.int .i64 t385)).setCell ⟨gb386, 5, none⟩ (.int .i64 ji10)).setCell ⟨gb386, 3, none⟩ (.int .i64 1)) w.heap.size (fun _ => True) (.slice Ao15 t378.length co15) t378) := ⟨by exact (Kd.R_farN HO380.out BK386.out)⟩
    have n1_ : Aside0 (((((((((w14.setCell ⟨gb386, 0, none⟩ (.slice Ao15 t378.length co15)).setCell ⟨gb386, 1, none⟩ (.int .i64 t381)).setCell ⟨gb386, 2, none⟩ (.int .i64 t382)).setCell ⟨gb386, 3, none⟩ (.int .i64 t383)).setCell ⟨gb386, 4, none⟩ (.int .i64 t384)).setCell ⟨gb386, 5, none⟩ (.int .i64 t385)).setCell ⟨gb386, 5, none⟩ (.int .i64 ji10)).setCell ⟨gb386, 3, none⟩ (.int .i64 1)).heap[gb375]? = some (.cells #[.slice A0_0 l0_0.length c0_0, .int .i64 a0_1, .int .i64 a0_2, .int .i64 a0_3, .int .i64 a0_4, .int .i64 a0_5] 24 (0, 0))) := ⟨by exact blk_kb BK375.out NB375_386.out⟩
    have n2_ : Aside0 (((((((((w14.setCell ⟨gb386, 0, none⟩ (.slice Ao15 t378.length co15)).setCell ⟨gb386, 1, none⟩ (.int .i64 t381)).setCell ⟨gb386, 2, none⟩ (.int .i64 t382)).setCell ⟨gb386, 3, none⟩ (.int .i64 t383)).setCell ⟨gb386, 4, none⟩ (.int .i64 t384)).setCell ⟨gb386, 5, none⟩ (.int .i64 t385)).setCell ⟨gb386, 5, none⟩ (.int .i64 ji10)).setCell ⟨gb386, 3, none⟩ (.int .i64 1)).heap[gb376]? = some (.cells #[.slice none 0 0, .int .i64 0, .int .i64 0, .int .i64 0, .int .i64 0, .int .i64 0] 24 (0, 0))) := ⟨by exact blk_kb BK376.out NB376_386.out⟩
    have n3_ : Aside0 (((((((((w14.setCell ⟨gb386, 0, none⟩ (.slice Ao15 t378.length co15)).setCell ⟨gb386, 1, none⟩ (.int .i64 t381)).setCell ⟨gb386, 2, none⟩ (.int .i64 t382)).setCell ⟨gb386, 3, none⟩ (.int .i64 t383)).setCell ⟨gb386, 4, none⟩ (.int .i64 t384)).setCell ⟨gb386, 5, none⟩ (.int .i64 t385)).setCell ⟨gb386, 5, none⟩ (.int .i64 ji10)).setCell ⟨gb386, 3, none⟩ (.int .i64 1)).heap[gb386]? = some (.cells #[.slice Ao15 t378.length co15, .int .i64 t381, .int .i64 t382, .int .i64 1, .int .i64 t384, .int .i64 ji10] 24 (0, 0))) := ⟨by (with_reducible repeat (first | refine blk_drewN ?_ _ | refine blk_drew ?_ | refine blk_alloc ?_ _)); refine blk_put (cs := #[.slice Ao15 t378.length co15, .int .i64 t381, .int .i64 t382, .int .i64 t383, .int .i64 t384, .int .i64 ji10]) ?_ 3 _ rfl; (with_reducible repeat (first | refine blk_drewN ?_ _ | refine blk_drew ?_ | refine blk_alloc ?_ _)); refine blk_put (cs := #[.slice Ao15 t378.length co15, .int .i64 t381, .int .i64 t382, .int .i64 t383, .int .i64 t384, .int .i64 t385]) ?_ 5 _ rfl; (with_reducible repeat (first | refine blk_drewN ?_ _ | refine blk_drew ?_ | refine blk_alloc ?_ _)); refine blk_put (cs := #[.slice Ao15 t378.length co15, .int .i64 t381, .int .i64 t382, .int .i64 t383, .int .i64 t384, .int .i64 0]) ?_ 5 _ rfl; (with_reducible repeat (first | refine blk_drewN ?_ _ | refine blk_drew ?_ | refine blk_alloc ?_ _)); refine blk_put (cs := #[.slice Ao15 t378.length co15, .int .i64 t381, .int .i64 t382, .int .i64 t383, .int .i64 0, .int .i64 0]) ?_ 4 _ rfl; (with_reducible repeat (first | refine blk_drewN ?_ _ | refine blk_drew ?_ | refine blk_alloc ?_ _)); refine blk_put (cs := #[.slice Ao15 t378.length co15, .int .i64 t381, .int .i64 t382, .int .i64 0, .int .i64 0, .int .i64 0]) ?_ 3 _ rfl; (with_reducible repeat (first | refine blk_drewN ?_ _ | refine blk_drew ?_ | refine blk_alloc ?_ _)); refine blk_put (cs := #[.slice Ao15 t378.length co15, .int .i64 t381, .int .i64 0, .int .i64 0, .int .i64 0, .int .i64 0]) ?_ 2 _ rfl; (with_reducible repeat (first | refine blk_drewN ?_ _ | refine blk_drew ?_ | refine blk_alloc ?_ _)); refine blk_put (cs := #[.slice Ao15 t378.length co15, .int .i64 0, .int .i64 0, .int .i64 0, .int .i64 0, .int .i64 0]) ?_ 1 _ rfl; (with_reducible repeat (first | refine blk_drewN ?_ _ | refine blk_drew ?_ | refine blk_alloc ?_ _)); refine blk_put (cs := #[.slice none 0 0, .int .i64 0, .int .i64 0, .int .i64 0, .int .i64 0, .int .i64 0]) ?_ 0 _ rfl; (with_reducible repeat (first | refine blk_drewN ?_ _ | refine blk_drew ?_ | refine blk_alloc ?_ _)); exact BK386.out⟩
    have n4_ : Aside0 (Below w.heap.size w ((((((((w14.setCell ⟨gb386, 0, none⟩ (.slice Ao15 t378.length co15)).setCell ⟨gb386, 1, none⟩ (.int .i64 t381)).setCell ⟨gb386, 2, none⟩ (.int .i64 t382)).setCell ⟨gb386, 3, none⟩ (.int .i64 t383)).setCell ⟨gb386, 4, none⟩ (.int .i64 t384)).setCell ⟨gb386, 5, none⟩ (.int .i64 t385)).setCell ⟨gb386, 5, none⟩ (.int .i64 ji10)).setCell ⟨gb386, 3, none⟩ (.int .i64 1))) := ⟨by exact bel0⟩
    (try clear HO380); (try clear BK375); (try clear BK376); (try clear BK386); (try clear HB)
    generalize ((((((((w14.setCell ⟨gb386, 0, none⟩ (.slice Ao15 t378.length co15)).setCell ⟨gb386, 1, none⟩ (.int .i64 t381)).setCell ⟨gb386, 2, none⟩ (.int .i64 t382)).setCell ⟨gb386, 3, none⟩ (.int .i64 t383)).setCell ⟨gb386, 4, none⟩ (.int .i64 t384)).setCell ⟨gb386, 5, none⟩ (.int .i64 t385)).setCell ⟨gb386, 5, none⟩ (.int .i64 ji10)).setCell ⟨gb386, 3, none⟩ (.int .i64 1)) = w40 at n0_ n1_ n2_ n3_ n4_ ⊢
    have HO380 := n0_
    have BK375 := n1_
    have BK376 := n2_
    have BK386 := n3_
    have HB := n4_
    clear n0_ n1_ n2_ n3_ n4_
    have n_ := an (Kd.R_drew HO380.out) (an (blk_drew BK375.out) (an (blk_drew BK376.out) (an (blk_drew BK386.out) (an (below_drew1 HB.out) (trivial)))))
    clear HO380 BK375 BK376 BK386 HB
    obtain ⟨HO380, BK375, BK376, BK386, HB, -⟩ := n_
    refine start_ (n := 8) (S := fun w' => w'.cell? ⟨gb386, 0, none⟩ = some (.slice Ao15 t378.length co15) ∧ w'.cell? ⟨gb386, 1, none⟩ = some (.int .i64 t381) ∧ w'.cell? ⟨gb386, 2, none⟩ = some (.int .i64 t382) ∧ w'.cell? ⟨gb386, 3, none⟩ = some (.int .i64 1) ∧ w'.cell? ⟨gb386, 4, none⟩ = some (.int .i64 t384) ∧ w'.cell? ⟨gb386, 5, none⟩ = some (.int .i64 ji10) ∧ w'.cell? ⟨gb375, 0, none⟩ = some (.slice A0_0 l0_0.length c0_0) ∧ w'.cell? ⟨gb375, 1, none⟩ = some (.int .i64 a0_1) ∧ w'.cell? ⟨gb375, 2, none⟩ = some (.int .i64 a0_2) ∧ w'.cell? ⟨gb375, 3, none⟩ = some (.int .i64 a0_3) ∧ w'.cell? ⟨gb375, 4, none⟩ = some (.int .i64 a0_4) ∧ w'.cell? ⟨gb375, 5, none⟩ = some (.int .i64 a0_5)) (ds := []) #[false, false, false, false, false, false, false, false] (by kernel_rfl) rfl rfl ⟨(blk_cell BK386.out 0).trans rfl, (blk_cell BK386.out 1).trans rfl, (blk_cell BK386.out 2).trans rfl, (blk_cell BK386.out 3).trans rfl, (blk_cell BK386.out 4).trans rfl, (blk_cell BK386.out 5).trans rfl, (blk_cell BK375.out 0).trans rfl, (blk_cell BK375.out 1).trans rfl, (blk_cell BK375.out 2).trans rfl, (blk_cell BK375.out 3).trans rfl, (blk_cell BK375.out 4).trans rfl, (blk_cell BK375.out 5).trans rfl⟩ (fun hHeld => ?_); refine with_tabW impl_CheckFail.tab8 impl_CheckFail.bits8 (fun HT_ HW_ => ?_)
    generalize w40.drew = w41 at HO380 BK375 BK376 BK386 HB hHeld ⊢
    refine pure_ (i := 1) (N := some 31) (v := ?_) (a' := ?_) #[false, true, false, false, false, false, false, false] rfl rfl (any_of HT_.out (by kernel_rfl)) (fun _ _ _ h => h) (Or.inl ⟨by rfl, ?_⟩) ?_ ?_
    rotate_left
    ·intro w'
     go_simp
     with_reducible rfl
    rotate_left
    ·simp only [Act.put, List.setIfInBounds_toArray, List.set_cons_zero, List.set_cons_succ, i64_w, i32_w]
     rfl
    refine pure_ (i := 3) (N := some 33) (v := ?_) (a' := ?_) #[false, true, false, true, false, false, false, false] rfl rfl (any_of HT_.out (by kernel_rfl)) (fun _ _ _ h => h) (Or.inl ⟨by rfl, ?_⟩) ?_ ?_
    rotate_left
    ·intro w'
     go_simp
     with_reducible rfl
    rotate_left
    ·simp only [Act.put, List.setIfInBounds_toArray, List.set_cons_zero, List.set_cons_succ, i64_w, i32_w]
     rfl
    refine take_ (i := 0) (N := some 30) (v := ?_) (a' := ?_) #[true, true, false, true, false, false, false, false] rfl rfl (take_ofW HT_.out HW_.out (by kernel_rfl)) (fun _ _ _ h => h) (Or.inl ⟨by rfl, ?_⟩) hHeld ?_ ?_
    rotate_left
    ·rintro w' ⟨s0, s1, s2, s3, s4, s5, s6, s7, s8, s9, s10, s11⟩
     go_simp
     with_reducible rfl
    rotate_left
    ·simp only [Act.put, List.setIfInBounds_toArray, List.set_cons_zero, List.set_cons_succ, i64_w, i32_w]
     rfl
    refine take_ (i := 2) (N := some 32) (v := ?_) (a' := ?_) #[true, true, true, true, false, false, false, false] rfl rfl (take_ofW HT_.out HW_.out (by kernel_rfl)) (fun _ _ _ h => h) (Or.inl ⟨by rfl, ?_⟩) hHeld ?_ ?_
    rotate_left
    ·rintro w' ⟨s0, s1, s2, s3, s4, s5, s6, s7, s8, s9, s10, s11⟩
     go_simp
     with_reducible rfl
    rotate_left
    ·simp only [Act.put, List.setIfInBounds_toArray, List.set_cons_zero, List.set_cons_succ, i64_w, i32_w]
     rfl
    refine take_ (i := 4) (N := some 34) (v := ?_) (a' := ?_) #[true, true, true, true, true, false, false, false] rfl rfl (take_ofW HT_.out HW_.out (by kernel_rfl)) (fun _ _ _ h => h) (Or.inl ⟨by rfl, ?_⟩) hHeld ?_ ?_
    rotate_left
    ·rintro w' ⟨s0, s1, s2, s3, s4, s5, s6, s7, s8, s9, s10, s11⟩
     go_simp
     with_reducible rfl
    rotate_left
    ·simp only [Act.put, List.setIfInBounds_toArray, List.set_cons_zero, List.set_cons_succ, i64_w, i32_w]
     rfl
    refine pure_ (i := 5) (N := some 35) (v := ?_) (a' := ?_) #[true, true, true, true, true, true, false, false] rfl rfl (any_of HT_.out (by kernel_rfl)) (fun _ _ _ h => h) (Or.inl ⟨by rfl, ?_⟩) ?_ ?_
    rotate_left
    ·intro w'
     go_simp
     with_reducible rfl
    rotate_left
    ·simp only [Act.put, List.setIfInBounds_toArray, List.set_cons_zero, List.set_cons_succ, i64_w, i32_w]
     rfl
    refine one_ (i := 6) (N := none) #[true, true, true, true, true, true, true, false] rfl rfl (one_of HT_.out (by kernel_rfl)) (by decide) (fun K hK => ?_)
    have hs42 : w41.cell? ⟨gb376, 0, none⟩ = some (.slice none 0 0) := (blk_cell BK376.out 0).trans rfl
    have hfs42 := blk_frozen BK376.out 0
    have hns42_0 := NB375_376.out; have hns42_2 := NB386_376.out; have hms42_0 := NB376_375.out; have hms42_2 := NB376_386.out
    have hs43 : w41.cell? ⟨gb376, 1, none⟩ = some (.int .i64 0) := (blk_cell BK376.out 1).trans rfl
    have hfs43 := blk_frozen BK376.out 1
    have hns43_0 := NB375_376.out; have hns43_2 := NB386_376.out; have hms43_0 := NB376_375.out; have hms43_2 := NB376_386.out
    have hs44 : w41.cell? ⟨gb376, 2, none⟩ = some (.int .i64 0) := (blk_cell BK376.out 2).trans rfl
    have hfs44 := blk_frozen BK376.out 2
    have hns44_0 := NB375_376.out; have hns44_2 := NB386_376.out; have hms44_0 := NB376_375.out; have hms44_2 := NB376_386.out
    have hs45 : w41.cell? ⟨gb376, 3, none⟩ = some (.int .i64 0) := (blk_cell BK376.out 3).trans rfl
    have hfs45 := blk_frozen BK376.out 3
    have hns45_0 := NB375_376.out; have hns45_2 := NB386_376.out; have hms45_0 := NB376_375.out; have hms45_2 := NB376_386.out
    have hs46 : w41.cell? ⟨gb376, 4, none⟩ = some (.int .i64 0) := (blk_cell BK376.out 4).trans rfl
    have hfs46 := blk_frozen BK376.out 4
    have hns46_0 := NB375_376.out; have hns46_2 := NB386_376.out; have hms46_0 := NB376_375.out; have hms46_2 := NB376_386.out
    have hs47 : w41.cell? ⟨gb376, 5, none⟩ = some (.int .i64 0) := (blk_cell BK376.out 5).trans rfl
    have hfs47 := blk_frozen BK376.out 5
    have hns47_0 := NB375_376.out; have hns47_2 := NB386_376.out; have hms47_0 := NB376_375.out; have hms47_2 := NB376_386.out
    refine skip_ (w1 := ?_) (by rfl) rfl ?_ ?_
    rotate_left
    ·go_simp
     rfl
    refine hK.out _ _ ⟨((cell_far (p := ⟨gb376, _, none⟩) NB386_376.out _).trans (((cell_far (p := ⟨gb376, _, none⟩) NB386_376.out _).trans (((cell_far (p := ⟨gb376, _, none⟩) NB386_376.out _).trans (((cell_far (p := ⟨gb376, _, none⟩) NB386_376.out _).trans (((cell_far (p := ⟨gb376, _, none⟩) NB386_376.out _).trans (((cell_far (p := ⟨gb376, _, none⟩) NB386_376.out _).trans (hHeld.1)))))))))))), ((cell_far (p := ⟨gb376, _, none⟩) NB386_376.out _).trans (((cell_far (p := ⟨gb376, _, none⟩) NB386_376.out _).trans (((cell_far (p := ⟨gb376, _, none⟩) NB386_376.out _).trans (((cell_far (p := ⟨gb376, _, none⟩) NB386_376.out _).trans (((cell_far (p := ⟨gb376, _, none⟩) NB386_376.out _).trans (((cell_far (p := ⟨gb376, _, none⟩) NB386_376.out _).trans (hHeld.2.1)))))))))))), ((cell_far (p := ⟨gb376, _, none⟩) NB386_376.out _).trans (((cell_far (p := ⟨gb376, _, none⟩) NB386_376.out _).trans (((cell_far (p := ⟨gb376, _, none⟩) NB386_376.out _).trans (((cell_far (p := ⟨gb376, _, none⟩) NB386_376.out _).trans (((cell_far (p := ⟨gb376, _, none⟩) NB386_376.out _).trans (((cell_far (p := ⟨gb376, _, none⟩) NB386_376.out _).trans (hHeld.2.2.1)))))))))))), ((cell_far (p := ⟨gb376, _, none⟩) NB386_376.out _).trans (((cell_far (p := ⟨gb376, _, none⟩) NB386_376.out _).trans (((cell_far (p := ⟨gb376, _, none⟩) NB386_376.out _).trans (((cell_far (p := ⟨gb376, _, none⟩) NB386_376.out _).trans (((cell_far (p := ⟨gb376, _, none⟩) NB386_376.out _).trans (((cell_far (p := ⟨gb376, _, none⟩) NB386_376.out _).trans (hHeld.2.2.2.1)))))))))))), ((cell_far (p := ⟨gb376, _, none⟩) NB386_376.out _).trans (((cell_far (p := ⟨gb376, _, none⟩) NB386_376.out _).trans (((cell_far (p := ⟨gb376, _, none⟩) NB386_376.out _).trans (((cell_far (p := ⟨gb376, _, none⟩) NB386_376.out _).trans (((cell_far (p := ⟨gb376, _, none⟩) NB386_376.out _).trans (((cell_far (p := ⟨gb376, _, none⟩) NB386_376.out _).trans (hHeld.2.2.2.2.1)))))))))))), ((cell_far (p := ⟨gb376, _, none⟩) NB386_376.out _).trans (((cell_far (p := ⟨gb376, _, none⟩) NB386_376.out _).trans (((cell_far (p := ⟨gb376, _, none⟩) NB386_376.out _).trans (((cell_far (p := ⟨gb376, _, none⟩) NB386_376.out _).trans (((cell_far (p := ⟨gb376, _, none⟩) NB386_376.out _).trans (((cell_far (p := ⟨gb376, _, none⟩) NB386_376.out _).trans (hHeld.2.2.2.2.2.1)))))))))))), ((cell_far (p := ⟨gb376, _, none⟩) NB375_376.out _).trans (((cell_far (p := ⟨gb376, _, none⟩) NB375_376.out _).trans (((cell_far (p := ⟨gb376, _, none⟩) NB375_376.out _).trans (((cell_far (p := ⟨gb376, _, none⟩) NB375_376.out _).trans (((cell_far (p := ⟨gb376, _, none⟩) NB375_376.out _).trans (((cell_far (p := ⟨gb376, _, none⟩) NB375_376.out _).trans (hHeld.2.2.2.2.2.2.1)))))))))))), ((cell_far (p := ⟨gb376, _, none⟩) NB375_376.out _).trans (((cell_far (p := ⟨gb376, _, none⟩) NB375_376.out _).trans (((cell_far (p := ⟨gb376, _, none⟩) NB375_376.out _).trans (((cell_far (p := ⟨gb376, _, none⟩) NB375_376.out _).trans (((cell_far (p := ⟨gb376, _, none⟩) NB375_376.out _).trans (((cell_far (p := ⟨gb376, _, none⟩) NB375_376.out _).trans (hHeld.2.2.2.2.2.2.2.1)))))))))))), ((cell_far (p := ⟨gb376, _, none⟩) NB375_376.out _).trans (((cell_far (p := ⟨gb376, _, none⟩) NB375_376.out _).trans (((cell_far (p := ⟨gb376, _, none⟩) NB375_376.out _).trans (((cell_far (p := ⟨gb376, _, none⟩) NB375_376.out _).trans (((cell_far (p := ⟨gb376, _, none⟩) NB375_376.out _).trans (((cell_far (p := ⟨gb376, _, none⟩) NB375_376.out _).trans (hHeld.2.2.2.2.2.2.2.2.1)))))))))))), ((cell_far (p := ⟨gb376, _, none⟩) NB375_376.out _).trans (((cell_far (p := ⟨gb376, _, none⟩) NB375_376.out _).trans (((cell_far (p := ⟨gb376, _, none⟩) NB375_376.out _).trans (((cell_far (p := ⟨gb376, _, none⟩) NB375_376.out _).trans (((cell_far (p := ⟨gb376, _, none⟩) NB375_376.out _).trans (((cell_far (p := ⟨gb376, _, none⟩) NB375_376.out _).trans (hHeld.2.2.2.2.2.2.2.2.2.1)))))))))))), ((cell_far (p := ⟨gb376, _, none⟩) NB375_376.out _).trans (((cell_far (p := ⟨gb376, _, none⟩) NB375_376.out _).trans (((cell_far (p := ⟨gb376, _, none⟩) NB375_376.out _).trans (((cell_far (p := ⟨gb376, _, none⟩) NB375_376.out _).trans (((cell_far (p := ⟨gb376, _, none⟩) NB375_376.out _).trans (((cell_far (p := ⟨gb376, _, none⟩) NB375_376.out _).trans (hHeld.2.2.2.2.2.2.2.2.2.2.1)))))))))))), ((cell_far (p := ⟨gb376, _, none⟩) NB375_376.out _).trans (((cell_far (p := ⟨gb376, _, none⟩) NB375_376.out _).trans (((cell_far (p := ⟨gb376, _, none⟩) NB375_376.out _).trans (((cell_far (p := ⟨gb376, _, none⟩) NB375_376.out _).trans (((cell_far (p := ⟨gb376, _, none⟩) NB375_376.out _).trans (((cell_far (p := ⟨gb376, _, none⟩) NB375_376.out _).trans (hHeld.2.2.2.2.2.2.2.2.2.2.2))))))))))))⟩ (fun hHeld => ?_)
    clear hK K
    refine pure_ (i := 7) (N := some 3) (v := ?_) (a' := ?_) #[true, true, true, true, true, true, true, true] rfl rfl (any_of HT_.out (by kernel_rfl)) (fun _ _ _ h => h) (Or.inl ⟨by rfl, ?_⟩) ?_ ?_
    rotate_left
    ·intro w'
     go_simp
     with_reducible rfl
    rotate_left
    ·simp only [Act.put, List.setIfInBounds_toArray, List.set_cons_zero, List.set_cons_succ, i64_w, i32_w]
     rfl
    refine done_ (done_of HT_.out (by kernel_rfl)) ?_
    try go_wp2
    refine bodyPost_ret (results_ct rfl _ _ gb376 24 #[.slice Ao15 t378.length co15, .int .i64 t381, .int .i64 t382, .int .i64 1, .int .i64 t384, .int .i64 ji10] (0, 0) _ rfl (by (with_reducible repeat (first | refine blk_drewN ?_ _ | refine blk_drew ?_ | refine blk_alloc ?_ _)); exact blk_fill6 BK376.out) Try.underlying24 rfl (by kernel_rfl)) rfl ?_
    exact ⟨_, by first | rfl | (simp [errW_none, errW_some] <;> rfl) | (simp only [← hji10]; first | rfl | (simp [errW_none, errW_some] <;> rfl)) | (simp [*, errW_none, errW_some] <;> rfl), by exact (Kd.R_farN HO380.out BK376.out), by exact bel0⟩
  ·rw [if_neg c20] at H; have c20b0 : decide ((ji10) < a0_2) = false := decide_eq_false c20; clear c20; (try simp only [c20b0]); simp only [Option.some.injEq, Prod.mk.injEq] at H; obtain ⟨rfl, rfl, rfl, rfl, rfl, rfl, rfl⟩ := H; have hnb48 := NB386_375.out; have hnc48 := NB375_386.out; have hnb49 := NB386_376.out; have hnc49 := NB376_386.out; obtain ⟨hcz50_0, hcz50_1, hcz50_2, hcz50_3, hcz50_4, hcz50_5⟩ := blkz6 BK386.out; have hfz50_0 := blkf BK386.out
   try go_wp2
   have n0_ : Aside0 (Kd.R (Kd.int .u8) 5 ((((((((w14.setCell ⟨gb386, 0, none⟩ (.slice Ao15 t378.length co15)).setCell ⟨gb386, 1, none⟩ (.int .i64 t381)).setCell ⟨gb386, 2, none⟩ (.int .i64 t382)).setCell ⟨gb386, 3, none⟩ (.int .i64 t383)).setCell ⟨gb386, 4, none⟩ (.int .i64 t384)).setCell ⟨gb386, 5, none⟩ (.int .i64 t385)).setCell ⟨gb386, 5, none⟩ (.int .i64 ji10)).setCell ⟨gb386, 3, none⟩ (.int .i64 2)) w.heap.size (fun _ => True) (.slice Ao15 t378.length co15) t378) := ⟨by exact (Kd.R_farN HO380.out BK386.out)⟩
   have n1_ : Aside0 (((((((((w14.setCell ⟨gb386, 0, none⟩ (.slice Ao15 t378.length co15)).setCell ⟨gb386, 1, none⟩ (.int .i64 t381)).setCell ⟨gb386, 2, none⟩ (.int .i64 t382)).setCell ⟨gb386, 3, none⟩ (.int .i64 t383)).setCell ⟨gb386, 4, none⟩ (.int .i64 t384)).setCell ⟨gb386, 5, none⟩ (.int .i64 t385)).setCell ⟨gb386, 5, none⟩ (.int .i64 ji10)).setCell ⟨gb386, 3, none⟩ (.int .i64 2)).heap[gb375]? = some (.cells #[.slice A0_0 l0_0.length c0_0, .int .i64 a0_1, .int .i64 a0_2, .int .i64 a0_3, .int .i64 a0_4, .int .i64 a0_5] 24 (0, 0))) := ⟨by exact blk_kb BK375.out NB375_386.out⟩
   have n2_ : Aside0 (((((((((w14.setCell ⟨gb386, 0, none⟩ (.slice Ao15 t378.length co15)).setCell ⟨gb386, 1, none⟩ (.int .i64 t381)).setCell ⟨gb386, 2, none⟩ (.int .i64 t382)).setCell ⟨gb386, 3, none⟩ (.int .i64 t383)).setCell ⟨gb386, 4, none⟩ (.int .i64 t384)).setCell ⟨gb386, 5, none⟩ (.int .i64 t385)).setCell ⟨gb386, 5, none⟩ (.int .i64 ji10)).setCell ⟨gb386, 3, none⟩ (.int .i64 2)).heap[gb376]? = some (.cells #[.slice none 0 0, .int .i64 0, .int .i64 0, .int .i64 0, .int .i64 0, .int .i64 0] 24 (0, 0))) := ⟨by exact blk_kb BK376.out NB376_386.out⟩
   have n3_ : Aside0 (((((((((w14.setCell ⟨gb386, 0, none⟩ (.slice Ao15 t378.length co15)).setCell ⟨gb386, 1, none⟩ (.int .i64 t381)).setCell ⟨gb386, 2, none⟩ (.int .i64 t382)).setCell ⟨gb386, 3, none⟩ (.int .i64 t383)).setCell ⟨gb386, 4, none⟩ (.int .i64 t384)).setCell ⟨gb386, 5, none⟩ (.int .i64 t385)).setCell ⟨gb386, 5, none⟩ (.int .i64 ji10)).setCell ⟨gb386, 3, none⟩ (.int .i64 2)).heap[gb386]? = some (.cells #[.slice Ao15 t378.length co15, .int .i64 t381, .int .i64 t382, .int .i64 2, .int .i64 t384, .int .i64 ji10] 24 (0, 0))) := ⟨by (with_reducible repeat (first | refine blk_drewN ?_ _ | refine blk_drew ?_ | refine blk_alloc ?_ _)); refine blk_put (cs := #[.slice Ao15 t378.length co15, .int .i64 t381, .int .i64 t382, .int .i64 t383, .int .i64 t384, .int .i64 ji10]) ?_ 3 _ rfl; (with_reducible repeat (first | refine blk_drewN ?_ _ | refine blk_drew ?_ | refine blk_alloc ?_ _)); refine blk_put (cs := #[.slice Ao15 t378.length co15, .int .i64 t381, .int .i64 t382, .int .i64 t383, .int .i64 t384, .int .i64 t385]) ?_ 5 _ rfl; (with_reducible repeat (first | refine blk_drewN ?_ _ | refine blk_drew ?_ | refine blk_alloc ?_ _)); refine blk_put (cs := #[.slice Ao15 t378.length co15, .int .i64 t381, .int .i64 t382, .int .i64 t383, .int .i64 t384, .int .i64 0]) ?_ 5 _ rfl; (with_reducible repeat (first | refine blk_drewN ?_ _ | refine blk_drew ?_ | refine blk_alloc ?_ _)); refine blk_put (cs := #[.slice Ao15 t378.length co15, .int .i64 t381, .int .i64 t382, .int .i64 t383, .int .i64 0, .int .i64 0]) ?_ 4 _ rfl; (with_reducible repeat (first | refine blk_drewN ?_ _ | refine blk_drew ?_ | refine blk_alloc ?_ _)); refine blk_put (cs := #[.slice Ao15 t378.length co15, .int .i64 t381, .int .i64 t382, .int .i64 0, .int .i64 0, .int .i64 0]) ?_ 3 _ rfl; (with_reducible repeat (first | refine blk_drewN ?_ _ | refine blk_drew ?_ | refine blk_alloc ?_ _)); refine blk_put (cs := #[.slice Ao15 t378.length co15, .int .i64 t381, .int .i64 0, .int .i64 0, .int .i64 0, .int .i64 0]) ?_ 2 _ rfl; (with_reducible repeat (first | refine blk_drewN ?_ _ | refine blk_drew ?_ | refine blk_alloc ?_ _)); refine blk_put (cs := #[.slice Ao15 t378.length co15, .int .i64 0, .int .i64 0, .int .i64 0, .int .i64 0, .int .i64 0]) ?_ 1 _ rfl; (with_reducible repeat (first | refine blk_drewN ?_ _ | refine blk_drew ?_ | refine blk_alloc ?_ _)); refine blk_put (cs := #[.slice none 0 0, .int .i64 0, .int .i64 0, .int .i64 0, .int .i64 0, .int .i64 0]) ?_ 0 _ rfl; (with_reducible repeat (first | refine blk_drewN ?_ _ | refine blk_drew ?_ | refine blk_alloc ?_ _)); exact BK386.out⟩
   have n4_ : Aside0 (Below w.heap.size w ((((((((w14.setCell ⟨gb386, 0, none⟩ (.slice Ao15 t378.length co15)).setCell ⟨gb386, 1, none⟩ (.int .i64 t381)).setCell ⟨gb386, 2, none⟩ (.int .i64 t382)).setCell ⟨gb386, 3, none⟩ (.int .i64 t383)).setCell ⟨gb386, 4, none⟩ (.int .i64 t384)).setCell ⟨gb386, 5, none⟩ (.int .i64 t385)).setCell ⟨gb386, 5, none⟩ (.int .i64 ji10)).setCell ⟨gb386, 3, none⟩ (.int .i64 2))) := ⟨by exact bel0⟩
   (try clear HO380); (try clear BK375); (try clear BK376); (try clear BK386); (try clear HB)
   generalize ((((((((w14.setCell ⟨gb386, 0, none⟩ (.slice Ao15 t378.length co15)).setCell ⟨gb386, 1, none⟩ (.int .i64 t381)).setCell ⟨gb386, 2, none⟩ (.int .i64 t382)).setCell ⟨gb386, 3, none⟩ (.int .i64 t383)).setCell ⟨gb386, 4, none⟩ (.int .i64 t384)).setCell ⟨gb386, 5, none⟩ (.int .i64 t385)).setCell ⟨gb386, 5, none⟩ (.int .i64 ji10)).setCell ⟨gb386, 3, none⟩ (.int .i64 2)) = w51 at n0_ n1_ n2_ n3_ n4_ ⊢
   have HO380 := n0_
   have BK375 := n1_
   have BK376 := n2_
   have BK386 := n3_
   have HB := n4_
   clear n0_ n1_ n2_ n3_ n4_
   have n_ := an (Kd.R_drew HO380.out) (an (blk_drew BK375.out) (an (blk_drew BK376.out) (an (blk_drew BK386.out) (an (below_drew1 HB.out) (trivial)))))
   clear HO380 BK375 BK376 BK386 HB
   obtain ⟨HO380, BK375, BK376, BK386, HB, -⟩ := n_
   refine start_ (n := 8) (S := fun w' => w'.cell? ⟨gb386, 0, none⟩ = some (.slice Ao15 t378.length co15) ∧ w'.cell? ⟨gb386, 1, none⟩ = some (.int .i64 t381) ∧ w'.cell? ⟨gb386, 2, none⟩ = some (.int .i64 t382) ∧ w'.cell? ⟨gb386, 3, none⟩ = some (.int .i64 2) ∧ w'.cell? ⟨gb386, 4, none⟩ = some (.int .i64 t384) ∧ w'.cell? ⟨gb386, 5, none⟩ = some (.int .i64 ji10) ∧ w'.cell? ⟨gb375, 0, none⟩ = some (.slice A0_0 l0_0.length c0_0) ∧ w'.cell? ⟨gb375, 1, none⟩ = some (.int .i64 a0_1) ∧ w'.cell? ⟨gb375, 2, none⟩ = some (.int .i64 a0_2) ∧ w'.cell? ⟨gb375, 3, none⟩ = some (.int .i64 a0_3) ∧ w'.cell? ⟨gb375, 4, none⟩ = some (.int .i64 a0_4) ∧ w'.cell? ⟨gb375, 5, none⟩ = some (.int .i64 a0_5)) (ds := []) #[false, false, false, false, false, false, false, false] (by kernel_rfl) rfl rfl ⟨(blk_cell BK386.out 0).trans rfl, (blk_cell BK386.out 1).trans rfl, (blk_cell BK386.out 2).trans rfl, (blk_cell BK386.out 3).trans rfl, (blk_cell BK386.out 4).trans rfl, (blk_cell BK386.out 5).trans rfl, (blk_cell BK375.out 0).trans rfl, (blk_cell BK375.out 1).trans rfl, (blk_cell BK375.out 2).trans rfl, (blk_cell BK375.out 3).trans rfl, (blk_cell BK375.out 4).trans rfl, (blk_cell BK375.out 5).trans rfl⟩ (fun hHeld => ?_); refine with_tabW impl_CheckFail.tab8 impl_CheckFail.bits8 (fun HT_ HW_ => ?_)
   generalize w51.drew = w52 at HO380 BK375 BK376 BK386 HB hHeld ⊢
   refine pure_ (i := 1) (N := some 31) (v := ?_) (a' := ?_) #[false, true, false, false, false, false, false, false] rfl rfl (any_of HT_.out (by kernel_rfl)) (fun _ _ _ h => h) (Or.inl ⟨by rfl, ?_⟩) ?_ ?_
   rotate_left
   ·intro w'
    go_simp
    with_reducible rfl
   rotate_left
   ·simp only [Act.put, List.setIfInBounds_toArray, List.set_cons_zero, List.set_cons_succ, i64_w, i32_w]
    rfl
   refine pure_ (i := 3) (N := some 33) (v := ?_) (a' := ?_) #[false, true, false, true, false, false, false, false] rfl rfl (any_of HT_.out (by kernel_rfl)) (fun _ _ _ h => h) (Or.inl ⟨by rfl, ?_⟩) ?_ ?_
   rotate_left
   ·intro w'
    go_simp
    with_reducible rfl
   rotate_left
   ·simp only [Act.put, List.setIfInBounds_toArray, List.set_cons_zero, List.set_cons_succ, i64_w, i32_w]
    rfl
   refine take_ (i := 0) (N := some 30) (v := ?_) (a' := ?_) #[true, true, false, true, false, false, false, false] rfl rfl (take_ofW HT_.out HW_.out (by kernel_rfl)) (fun _ _ _ h => h) (Or.inl ⟨by rfl, ?_⟩) hHeld ?_ ?_
   rotate_left
   ·rintro w' ⟨s0, s1, s2, s3, s4, s5, s6, s7, s8, s9, s10, s11⟩
    go_simp
    with_reducible rfl
   rotate_left
   ·simp only [Act.put, List.setIfInBounds_toArray, List.set_cons_zero, List.set_cons_succ, i64_w, i32_w]
    rfl
   refine take_ (i := 2) (N := some 32) (v := ?_) (a' := ?_) #[true, true, true, true, false, false, false, false] rfl rfl (take_ofW HT_.out HW_.out (by kernel_rfl)) (fun _ _ _ h => h) (Or.inl ⟨by rfl, ?_⟩) hHeld ?_ ?_
   rotate_left
   ·rintro w' ⟨s0, s1, s2, s3, s4, s5, s6, s7, s8, s9, s10, s11⟩
    go_simp
    with_reducible rfl
   rotate_left
   ·simp only [Act.put, List.setIfInBounds_toArray, List.set_cons_zero, List.set_cons_succ, i64_w, i32_w]
    rfl
   refine take_ (i := 4) (N := some 34) (v := ?_) (a' := ?_) #[true, true, true, true, true, false, false, false] rfl rfl (take_ofW HT_.out HW_.out (by kernel_rfl)) (fun _ _ _ h => h) (Or.inl ⟨by rfl, ?_⟩) hHeld ?_ ?_
   rotate_left
   ·rintro w' ⟨s0, s1, s2, s3, s4, s5, s6, s7, s8, s9, s10, s11⟩
    go_simp
    with_reducible rfl
   rotate_left
   ·simp only [Act.put, List.setIfInBounds_toArray, List.set_cons_zero, List.set_cons_succ, i64_w, i32_w]
    rfl
   refine pure_ (i := 5) (N := some 35) (v := ?_) (a' := ?_) #[true, true, true, true, true, true, false, false] rfl rfl (any_of HT_.out (by kernel_rfl)) (fun _ _ _ h => h) (Or.inl ⟨by rfl, ?_⟩) ?_ ?_
   rotate_left
   ·intro w'
    go_simp
    with_reducible rfl
   rotate_left
   ·simp only [Act.put, List.setIfInBounds_toArray, List.set_cons_zero, List.set_cons_succ, i64_w, i32_w]
    rfl
   refine one_ (i := 6) (N := none) #[true, true, true, true, true, true, true, false] rfl rfl (one_of HT_.out (by kernel_rfl)) (by decide) (fun K hK => ?_)
   have hs53 : w52.cell? ⟨gb376, 0, none⟩ = some (.slice none 0 0) := (blk_cell BK376.out 0).trans rfl
   have hfs53 := blk_frozen BK376.out 0
   have hns53_0 := NB375_376.out; have hns53_2 := NB386_376.out; have hms53_0 := NB376_375.out; have hms53_2 := NB376_386.out
   have hs54 : w52.cell? ⟨gb376, 1, none⟩ = some (.int .i64 0) := (blk_cell BK376.out 1).trans rfl
   have hfs54 := blk_frozen BK376.out 1
   have hns54_0 := NB375_376.out; have hns54_2 := NB386_376.out; have hms54_0 := NB376_375.out; have hms54_2 := NB376_386.out
   have hs55 : w52.cell? ⟨gb376, 2, none⟩ = some (.int .i64 0) := (blk_cell BK376.out 2).trans rfl
   have hfs55 := blk_frozen BK376.out 2
   have hns55_0 := NB375_376.out; have hns55_2 := NB386_376.out; have hms55_0 := NB376_375.out; have hms55_2 := NB376_386.out
   have hs56 : w52.cell? ⟨gb376, 3, none⟩ = some (.int .i64 0) := (blk_cell BK376.out 3).trans rfl
   have hfs56 := blk_frozen BK376.out 3
   have hns56_0 := NB375_376.out; have hns56_2 := NB386_376.out; have hms56_0 := NB376_375.out; have hms56_2 := NB376_386.out
   have hs57 : w52.cell? ⟨gb376, 4, none⟩ = some (.int .i64 0) := (blk_cell BK376.out 4).trans rfl
   have hfs57 := blk_frozen BK376.out 4
   have hns57_0 := NB375_376.out; have hns57_2 := NB386_376.out; have hms57_0 := NB376_375.out; have hms57_2 := NB376_386.out
   have hs58 : w52.cell? ⟨gb376, 5, none⟩ = some (.int .i64 0) := (blk_cell BK376.out 5).trans rfl
   have hfs58 := blk_frozen BK376.out 5
   have hns58_0 := NB375_376.out; have hns58_2 := NB386_376.out; have hms58_0 := NB376_375.out; have hms58_2 := NB376_386.out
   refine skip_ (w1 := ?_) (by rfl) rfl ?_ ?_
   rotate_left
   ·go_simp
    rfl
   refine hK.out _ _ ⟨((cell_far (p := ⟨gb376, _, none⟩) NB386_376.out _).trans (((cell_far (p := ⟨gb376, _, none⟩) NB386_376.out _).trans (((cell_far (p := ⟨gb376, _, none⟩) NB386_376.out _).trans (((cell_far (p := ⟨gb376, _, none⟩) NB386_376.out _).trans (((cell_far (p := ⟨gb376, _, none⟩) NB386_376.out _).trans (((cell_far (p := ⟨gb376, _, none⟩) NB386_376.out _).trans (hHeld.1)))))))))))), ((cell_far (p := ⟨gb376, _, none⟩) NB386_376.out _).trans (((cell_far (p := ⟨gb376, _, none⟩) NB386_376.out _).trans (((cell_far (p := ⟨gb376, _, none⟩) NB386_376.out _).trans (((cell_far (p := ⟨gb376, _, none⟩) NB386_376.out _).trans (((cell_far (p := ⟨gb376, _, none⟩) NB386_376.out _).trans (((cell_far (p := ⟨gb376, _, none⟩) NB386_376.out _).trans (hHeld.2.1)))))))))))), ((cell_far (p := ⟨gb376, _, none⟩) NB386_376.out _).trans (((cell_far (p := ⟨gb376, _, none⟩) NB386_376.out _).trans (((cell_far (p := ⟨gb376, _, none⟩) NB386_376.out _).trans (((cell_far (p := ⟨gb376, _, none⟩) NB386_376.out _).trans (((cell_far (p := ⟨gb376, _, none⟩) NB386_376.out _).trans (((cell_far (p := ⟨gb376, _, none⟩) NB386_376.out _).trans (hHeld.2.2.1)))))))))))), ((cell_far (p := ⟨gb376, _, none⟩) NB386_376.out _).trans (((cell_far (p := ⟨gb376, _, none⟩) NB386_376.out _).trans (((cell_far (p := ⟨gb376, _, none⟩) NB386_376.out _).trans (((cell_far (p := ⟨gb376, _, none⟩) NB386_376.out _).trans (((cell_far (p := ⟨gb376, _, none⟩) NB386_376.out _).trans (((cell_far (p := ⟨gb376, _, none⟩) NB386_376.out _).trans (hHeld.2.2.2.1)))))))))))), ((cell_far (p := ⟨gb376, _, none⟩) NB386_376.out _).trans (((cell_far (p := ⟨gb376, _, none⟩) NB386_376.out _).trans (((cell_far (p := ⟨gb376, _, none⟩) NB386_376.out _).trans (((cell_far (p := ⟨gb376, _, none⟩) NB386_376.out _).trans (((cell_far (p := ⟨gb376, _, none⟩) NB386_376.out _).trans (((cell_far (p := ⟨gb376, _, none⟩) NB386_376.out _).trans (hHeld.2.2.2.2.1)))))))))))), ((cell_far (p := ⟨gb376, _, none⟩) NB386_376.out _).trans (((cell_far (p := ⟨gb376, _, none⟩) NB386_376.out _).trans (((cell_far (p := ⟨gb376, _, none⟩) NB386_376.out _).trans (((cell_far (p := ⟨gb376, _, none⟩) NB386_376.out _).trans (((cell_far (p := ⟨gb376, _, none⟩) NB386_376.out _).trans (((cell_far (p := ⟨gb376, _, none⟩) NB386_376.out _).trans (hHeld.2.2.2.2.2.1)))))))))))), ((cell_far (p := ⟨gb376, _, none⟩) NB375_376.out _).trans (((cell_far (p := ⟨gb376, _, none⟩) NB375_376.out _).trans (((cell_far (p := ⟨gb376, _, none⟩) NB375_376.out _).trans (((cell_far (p := ⟨gb376, _, none⟩) NB375_376.out _).trans (((cell_far (p := ⟨gb376, _, none⟩) NB375_376.out _).trans (((cell_far (p := ⟨gb376, _, none⟩) NB375_376.out _).trans (hHeld.2.2.2.2.2.2.1)))))))))))), ((cell_far (p := ⟨gb376, _, none⟩) NB375_376.out _).trans (((cell_far (p := ⟨gb376, _, none⟩) NB375_376.out _).trans (((cell_far (p := ⟨gb376, _, none⟩) NB375_376.out _).trans (((cell_far (p := ⟨gb376, _, none⟩) NB375_376.out _).trans (((cell_far (p := ⟨gb376, _, none⟩) NB375_376.out _).trans (((cell_far (p := ⟨gb376, _, none⟩) NB375_376.out _).trans (hHeld.2.2.2.2.2.2.2.1)))))))))))), ((cell_far (p := ⟨gb376, _, none⟩) NB375_376.out _).trans (((cell_far (p := ⟨gb376, _, none⟩) NB375_376.out _).trans (((cell_far (p := ⟨gb376, _, none⟩) NB375_376.out _).trans (((cell_far (p := ⟨gb376, _, none⟩) NB375_376.out _).trans (((cell_far (p := ⟨gb376, _, none⟩) NB375_376.out _).trans (((cell_far (p := ⟨gb376, _, none⟩) NB375_376.out _).trans (hHeld.2.2.2.2.2.2.2.2.1)))))))))))), ((cell_far (p := ⟨gb376, _, none⟩) NB375_376.out _).trans (((cell_far (p := ⟨gb376, _, none⟩) NB375_376.out _).trans (((cell_far (p := ⟨gb376, _, none⟩) NB375_376.out _).trans (((cell_far (p := ⟨gb376, _, none⟩) NB375_376.out _).trans (((cell_far (p := ⟨gb376, _, none⟩) NB375_376.out _).trans (((cell_far (p := ⟨gb376, _, none⟩) NB375_376.out _).trans (hHeld.2.2.2.2.2.2.2.2.2.1)))))))))))), ((cell_far (p := ⟨gb376, _, none⟩) NB375_376.out _).trans (((cell_far (p := ⟨gb376, _, none⟩) NB375_376.out _).trans (((cell_far (p := ⟨gb376, _, none⟩) NB375_376.out _).trans (((cell_far (p := ⟨gb376, _, none⟩) NB375_376.out _).trans (((cell_far (p := ⟨gb376, _, none⟩) NB375_376.out _).trans (((cell_far (p := ⟨gb376, _, none⟩) NB375_376.out _).trans (hHeld.2.2.2.2.2.2.2.2.2.2.1)))))))))))), ((cell_far (p := ⟨gb376, _, none⟩) NB375_376.out _).trans (((cell_far (p := ⟨gb376, _, none⟩) NB375_376.out _).trans (((cell_far (p := ⟨gb376, _, none⟩) NB375_376.out _).trans (((cell_far (p := ⟨gb376, _, none⟩) NB375_376.out _).trans (((cell_far (p := ⟨gb376, _, none⟩) NB375_376.out _).trans (((cell_far (p := ⟨gb376, _, none⟩) NB375_376.out _).trans (hHeld.2.2.2.2.2.2.2.2.2.2.2))))))))))))⟩ (fun hHeld => ?_)
   clear hK K
   refine pure_ (i := 7) (N := some 3) (v := ?_) (a' := ?_) #[true, true, true, true, true, true, true, true] rfl rfl (any_of HT_.out (by kernel_rfl)) (fun _ _ _ h => h) (Or.inl ⟨by rfl, ?_⟩) ?_ ?_
   rotate_left
   ·intro w'
    go_simp
    with_reducible rfl
   rotate_left
   ·simp only [Act.put, List.setIfInBounds_toArray, List.set_cons_zero, List.set_cons_succ, i64_w, i32_w]
    rfl
   refine done_ (done_of HT_.out (by kernel_rfl)) ?_
   try go_wp2
   refine bodyPost_ret (results_ct rfl _ _ gb376 24 #[.slice Ao15 t378.length co15, .int .i64 t381, .int .i64 t382, .int .i64 2, .int .i64 t384, .int .i64 ji10] (0, 0) _ rfl (by (with_reducible repeat (first | refine blk_drewN ?_ _ | refine blk_drew ?_ | refine blk_alloc ?_ _)); exact blk_fill6 BK376.out) Try.underlying24 rfl (by kernel_rfl)) rfl ?_
   exact ⟨_, by first | rfl | (simp [errW_none, errW_some] <;> rfl) | (simp only [← hji10]; first | rfl | (simp [errW_none, errW_some] <;> rfl)) | (simp [*, errW_none, errW_some] <;> rfl), by exact (Kd.R_farN HO380.out BK376.out), by exact bel0⟩
 ·replace c8 := Bool.eq_false_iff.mpr c8
  subst c8
  rw [if_neg (show ¬ (false = true) by decide)] at H
  simp only [Option.some.injEq, Prod.mk.injEq] at H; obtain ⟨rfl, rfl, rfl, rfl, rfl, rfl, rfl⟩ := H; have hnb59 := NB376_375.out; have hnc59 := NB375_376.out; obtain ⟨hcz60_0, hcz60_1, hcz60_2, hcz60_3, hcz60_4, hcz60_5⟩ := blkz6 BK376.out; have hfz60_0 := blkf BK376.out
  go_wp2
  refine bodyPost_ret (results_ct rfl _ _ gb376 24 #[.slice none 0 0, .int .i64 0, .int .i64 0, .int .i64 0, .int .i64 0, .int .i64 0] (0, 0) _ rfl (by (with_reducible repeat (first | refine blk_drewN ?_ _ | refine blk_drew ?_ | refine blk_alloc ?_ _)); exact blk_fill6 BK376.out) Try.underlying24 rfl (by kernel_rfl)) rfl ?_
  exact ⟨_, by first | rfl | (simp [errW_none, errW_some] <;> rfl) | (simp [*, errW_none, errW_some] <;> rfl), by first | exact Kd.R_nil _ _ _ _ _ | exact Kd.N_nil _ _ _ _ _ | exact Kd.V_nil _ _ _ _ _ | exact Kd.Q_nil _ _ _ _ _ | exact Kd.S_nil _ _ _ _ _, by exact bel0⟩

/-! ### impl_Worst: function 11 -/
def impl_Worst.l0 : Nat → Int → List (S24) → Int → Int → Option (Int)
  | 0, _, _, _, _ => none
  | k + 1, x3, x6, x7, x8 => if x8 < x7 then (if 0 ≤ x8 then (if x8 < (x6.length : Int) then ((impl_CheckOk.f k ((rd_T24 x6 x8).f0) ((rd_T24 x6 x8).f1) ((rd_T24 x6 x8).f2) ((rd_T24 x6 x8).f3) ((rd_T24 x6 x8).f4) ((rd_T24 x6 x8).f5)).bind fun t389 => (if t389 = true then (impl_Worst.l0 k (mx x3 ((rd_T24 x6 x8).f3)) x6 x7 (wrap64 (x8 + 1))) else (some 2))) else (none)) else (none)) else (some x3)
def impl_Worst.f (k : Nat) (l0 : List (S24)) : Option (Int) := impl_Worst.l0 k 0 l0 (l0.length : Int) 0
theorem impl_Worst.mono_l : ∀ k, (∀ y0 y1 y2 y3, LeO (impl_Worst.l0 k y0 y1 y2 y3) (impl_Worst.l0 (k + 1) y0 y1 y2 y3))
 | 0 => fun _ _ _ _ r h => by simp [impl_Worst.l0] at h
 | k + 1 => by
  have ih0 := impl_Worst.mono_l k
  ·intro y0 y1 y2 y3
   unfold impl_Worst.l0
   repeat' first
   | (with_reducible exact ih0 _ _ _ _)
   | (with_reducible exact impl_CheckOk.mono _ _ _ _ _ _ _)
   | (with_reducible exact LeO.refl _)
   | (with_reducible exact LeO.none _)
   | (with_reducible refine LeO.ite ?_ ?_)
   | (with_reducible refine LeO.bind ?_ (fun _ => ?_))
   | exact ih0 _ _ _ _
   | exact impl_CheckOk.mono _ _ _ _ _ _ _
   | exact LeO.none _
   | refine LeO.ite ?_ ?_
   | refine LeO.bind ?_ (fun _ => ?_)
theorem impl_Worst.mono : ∀ a0 k, LeO (impl_Worst.f k a0) (impl_Worst.f (k + 1) a0) := by
 intro a0 k
 have ih0 := impl_Worst.mono_l k
 unfold impl_Worst.f
 repeat' first
   | (with_reducible exact ih0 _ _ _ _)
   | (with_reducible exact impl_CheckOk.mono _ _ _ _ _ _ _)
   | (with_reducible exact LeO.refl _)
   | (with_reducible exact LeO.none _)
   | (with_reducible refine LeO.ite ?_ ?_)
   | (with_reducible refine LeO.bind ?_ (fun _ => ?_))
   | exact ih0 _ _ _ _
   | exact impl_CheckOk.mono _ _ _ _ _ _ _
   | exact LeO.none _
   | refine LeO.ite ?_ ?_
   | refine LeO.bind ?_ (fun _ => ?_)
set_option maxHeartbeats 8000000 in
set_option maxRecDepth 100000 in
theorem impl_Worst.calls (k : Nat) (A0 : Option Addr) (c0 : Nat) (l0 : List (S24)) (r : Int) (w : World) (hr0 : Kd.C k24 w A0 l0.length l0) (hc0 : l0.length ≤ c0) (h : impl_Worst.f k l0 = some r) :
  Calls Try.prog 11 #[.slice A0 l0.length c0] w fun e w' => e = .returned (.int .i64 r) ∧ Below w.heap.size w w' := by
 have hu24 := Try.underlying24
 have HR0 := Aside0.mk hr0; have HC0 := Aside0.mk hc0; clear hr0 hc0
 have HB := Aside0.mk (Below.refl w.heap.size w)
 have H : (impl_Worst.l0 k 0 l0 (l0.length : Int) 0) = some r := h
 clear h
 have H' := Aside0.mk H
 clear H; go_enter Try.func11, Try.ntmps11
 go_wp2
 go_loopg [3, 8] k (fun kq v3 v8 w' => ∃ (x3_1 : Int) (x8_1 : Int), v3 = .int .i64 x3_1 ∧ v8 = .int .i64 x8_1 ∧ Aside0 (impl_Worst.l0 kq x3_1 l0 (l0.length : Int) x8_1 = some r) ∧ Aside0 (kq ≤ k) ∧ Aside0 (Below w.heap.size w w'))
 case atStart => exact ⟨(0), (0), (by first | rfl | (simp; done) | (simp [*]; done)), (by first | rfl | (simp; done) | (simp [*]; done)), H', ⟨Nat.le_refl _⟩, ⟨by exact bel0⟩⟩
 case round =>
  clear H'
  try clear c1
  obtain ⟨x3_1, x8_1, rfl, rfl, HA, HK1, HB⟩ := hrel
  cases gk with
  | zero => exact absurd HA.out (by simp [impl_Worst.l0])
  | succ k1 =>
   have H := HA.out; clear HA
   simp only [impl_Worst.l0] at H
   by_cases c2 : x8_1 < (l0.length : Int)
   ·rw [if_pos c2] at H
    have c2b0 : decide (x8_1 < (l0.length : Int)) = true := decide_eq_true c2
    clear c2; (try simp only [c2b0])
    by_cases c3 : 0 ≤ x8_1
    ·rw [if_pos c3] at H; have c3b0 : decide (0 ≤ x8_1) = true := decide_eq_true c3; clear c3; (try simp only [c3b0])
     by_cases c4 : x8_1 < (l0.length : Int)
     ·rw [if_pos c4] at H
      have c4b0 : decide (x8_1 < (l0.length : Int)) = true := decide_eq_true c4
      clear c4; (try simp only [c4b0]); replace H := Option.bind_eq_some_iff.mp H; obtain ⟨t389, A50, H⟩ := H; have A5 := Aside0.mk A50; clear A50
      have p387 : 0 ≤ (x8_1 : Int) := of_decide_eq_true (by first | (with_reducible assumption) | assumption)
      have q387 : x8_1 < (l0.length : Int) := of_decide_eq_true (by first | (with_reducible assumption) | assumption)
      obtain ⟨ad387, A387_0, c387_0, e387, hx387_0, hx387_1, hx387_2, hx387_3, hx387_4, hx387_5, hl387_0, hi387_0⟩ := at_T24 HR0.out x8_1 p387 q387
      cases e387
      replace hx387_0 := (HB.out.cell (World.block_lt_of_cell? w _ hx387_0)).trans hx387_0
      replace hx387_1 := (HB.out.cell (World.block_lt_of_cell? w _ hx387_1)).trans hx387_1
      replace hx387_2 := (HB.out.cell (World.block_lt_of_cell? w _ hx387_2)).trans hx387_2
      replace hx387_3 := (HB.out.cell (World.block_lt_of_cell? w _ hx387_3)).trans hx387_3
      replace hx387_4 := (HB.out.cell (World.block_lt_of_cell? w _ hx387_4)).trans hx387_4
      replace hx387_5 := (HB.out.cell (World.block_lt_of_cell? w _ hx387_5)).trans hx387_5
      have HR387_0 := Aside0.mk hi387_0; have HC387_0 := Aside0.mk hl387_0; clear hi387_0 hl387_0
      replace p387 := eq_true p387
      replace q387 := eq_true q387
      replace H := Aside0.mk H
      go_wp2_with (first | ((with_reducible refine gate_dst (N := 5) rfl ?_); refine box_event ?hg (N := 5) ?hd (cs := #[.slice none 0 0, .int .i64 0, .int .i64 0, .int .i64 0, .int .i64 0, .int .i64 0]) (t := 24) ?hr ?_; (case hd => rfl); (case hg => rfl); (case hr => first | (go_simp; done) | (go_simp; rfl)); intro gb388 hg w6 hbox hb; have n_ := an (below_step (by exact bel0) hb) (an (hbox) (an ((by rw [hg]; exact (below_size (by exact bel0)) : w.heap.size ≤ gb388)) (an ((by rw [hg]; exact (below_size (by exact bel0)) : w.heap.size ≤ gb388)) (trivial)))); clear HB; obtain ⟨HB, BK388, GW388, GE388, -⟩ := n_; clear hb hbox hg; obtain ⟨hcz7_0, hcz7_1, hcz7_2, hcz7_3, hcz7_4, hcz7_5⟩ := blkz6 BK388.out; have hfz7_0 := blkf BK388.out) | ((with_reducible refine gate_callee (f := 9) rfl ?_); refine goesL_ (some 13) rfl rfl Try.func9 (by kernel_rfl) rfl #[.agg #[.slice A387_0 ((rd_T24 l0 x8_1).f0).length c387_0, .int .i64 ((rd_T24 l0 x8_1).f1), .int .i64 ((rd_T24 l0 x8_1).f2), .int .i64 ((rd_T24 l0 x8_1).f3), .int .i64 ((rd_T24 l0 x8_1).f4), .int .i64 ((rd_T24 l0 x8_1).f5)]] rfl (by (try simp only [List.map_toArray, List.map_cons, List.map_nil]); first | done | rfl | (simp only [List.length_drop, List.length_take]; rfl)) ?_; (with_reducible refine (impl_CheckOk.calls k1 _ _ ((rd_T24 l0 x8_1).f0) ((rd_T24 l0 x8_1).f1) ((rd_T24 l0 x8_1).f2) ((rd_T24 l0 x8_1).f3) ((rd_T24 l0 x8_1).f4) ((rd_T24 l0 x8_1).f5) t389 _ ?side1 ?side2 A5.out).mono ?_); (case side1 => exact Kd.C_below HR387_0.out (by exact bel0)); (case side2 => exact HC387_0.out); rintro e w8 ⟨rfl, hb⟩; refine ⟨_, rfl, ?_⟩; have n_ := an (blk_below (g := gb388) (o := .cells #[.slice A387_0 ((rd_T24 l0 x8_1).f0).length c387_0, .int .i64 ((rd_T24 l0 x8_1).f1), .int .i64 ((rd_T24 l0 x8_1).f2), .int .i64 ((rd_T24 l0 x8_1).f3), .int .i64 ((rd_T24 l0 x8_1).f4), .int .i64 ((rd_T24 l0 x8_1).f5)] 24 (0, 0)) (by (with_reducible repeat (first | refine blk_drewN ?_ _ | refine blk_drew ?_ | refine blk_alloc ?_ _)); exact blk_fill6 BK388.out) hb) (an (below_step (by exact bel0) hb) (trivial)); clear BK388 HB; obtain ⟨BK388, HB, -⟩ := n_; (try clear hb); (try clear hb2); (try clear hk); (try clear hi); refine Stop.out ?_))
      refine Stop.mk ?_
      replace H := H.out
      by_cases c9 : t389 = true
      ·subst c9; rw [if_pos rfl] at H
       obtain ⟨ji10, hji10⟩ : ∃ j_ : Int, (mx x3_1 ((rd_T24 l0 x8_1).f3)) = j_ := ⟨_, rfl⟩
       replace H : (impl_Worst.l0 k1 ji10 l0 (l0.length : Int) (wrap64 (x8_1 + 1))) = some r := by first | (rw [hji10] at H; exact H) | (simp only [hji10] at H ⊢; exact H)
       have hji10_ : (if x3_1 < ((rd_T24 l0 x8_1).f3) then ((rd_T24 l0 x8_1).f3) else x3_1) = ji10 := hji10
       have H' := Aside0.mk H
       clear H; obtain ⟨hcz11_0, hcz11_1, hcz11_2, hcz11_3, hcz11_4, hcz11_5⟩ := blkz6 BK388.out; have hfz11_0 := blkf BK388.out
       go_wp2
       go_roundg k1
       case measure => have := HK1.out; omega
       case rel => exact ⟨(ji10), (wrap64 (x8_1 + 1)), (by first | rfl | (simp; done) | (simp only [← hji10] <;> (first | rfl | simp)) | (simp [*]; done)), (by first | rfl | (simp; done) | (simp [*]; done)), H', ⟨by have := HK1.out; omega⟩, ⟨by exact bel0⟩⟩
      ·replace c9 := Bool.eq_false_iff.mpr c9
       subst c9
       rw [if_neg (show ¬ (false = true) by decide)] at H
       obtain rfl := Option.some.inj H
       go_wp2
       go_ret
       exact ⟨by first | rfl | (simp [errW_none, errW_some] <;> rfl) | (simp [*, errW_none, errW_some] <;> rfl), by exact bel0⟩
     ·rw [if_neg c4] at H
      exact absurd H (by simp)
    ·rw [if_neg c3] at H
     exact absurd H (by simp)
   ·rw [if_neg c2] at H
    have c2b0 : decide (x8_1 < (l0.length : Int)) = false := decide_eq_false c2
    clear c2; (try simp only [c2b0])
    obtain rfl := Option.some.inj H
    go_wp2
    go_ret
    exact ⟨by first | rfl | (simp [errW_none, errW_some] <;> rfl) | (simp [*, errW_none, errW_some] <;> rfl), by exact bel0⟩

end Go.Proofs.Ytgkoinnjpcpccaa.XFnChecks
