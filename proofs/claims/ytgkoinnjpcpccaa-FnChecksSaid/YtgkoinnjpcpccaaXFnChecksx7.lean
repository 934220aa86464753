-- Written by this session's own program (xprint.py) over the kit's print.
import Derived.Test.YtgkoinnjpcpccaaXFnChecksx0
import Derived.Test.YtgkoinnjpcpccaaXFnChecksx5
import Derived.Test.YtgkoinnjpcpccaaXFnChecksx6
namespace Go.Proofs.Ytgkoinnjpcpccaa.XFnChecks
open Go.RowKit Go.Proofs.YtgkoinnjpcpccaaW.PrintWords Go.Proofs.YtgkoinnjpcpccaaW.PrintLast Go.Proofs.YtgkoinnjpcpccaaW.PrintMore
attribute [local go_sem] max2_int min2_int max_two min_two max_three min_three max_four min_four   -- for this text's walks alone
set_option linter.unusedVariables false
set_option linter.unusedSimpArgs false

/-! ### impl_Check_tick: function 15 -/
def impl_Check_tick.f (l0_0 : List Int) (a0_1 : Int) (a0_2 : Int) (a0_3 : Int) (a0_4 : Int) (a0_5 : Int) (a1 : Int) : Option (List Int × Int × Int × Int × Int × Int × Bool) := (impl_Check_own.f l0_0 a0_1 a0_2 a0_3 a0_4 a0_5).bind fun bt333 => (if a0_1 = 0 then (some (bt333.1, bt333.2.1, bt333.2.2.1, bt333.2.2.2.1, bt333.2.2.2.2.1, bt333.2.2.2.2.2, false)) else ((impl_Check_late.f bt333.1 bt333.2.1 bt333.2.2.1 bt333.2.2.2.1 (wrap64 (a0_4 + (mn a1 (wrap64 (1000 - a0_4))))) bt333.2.2.2.2.2).bind fun t342 => (if t342 = true then (some (bt333.1, bt333.2.1, bt333.2.2.1, 2, wrap64 (a0_4 + (mn a1 (wrap64 (1000 - a0_4)))), bt333.2.2.2.2.2, (2 != a0_3))) else (some (bt333.1, bt333.2.1, bt333.2.2.1, bt333.2.2.2.1, wrap64 (a0_4 + (mn a1 (wrap64 (1000 - a0_4)))), bt333.2.2.2.2.2, (bt333.2.2.2.1 != a0_3))))))
def impl_Check_tick.T7 : Bool × List (List Nat × List Nat) := (true, [([], []), ([], []), ([1], [1]), ([], []), ([3], [3]), ([2, 4], [2, 4]), ([0, 0], [0]), ([5, 6, 0, 1, 2, 3, 4, 5, 6], [5])])
def impl_Check_tick.B7 : List Nat := [0, 0, 2, 0, 8, 30, 1, 127]
theorem impl_Check_tick.tab7 : rtab .any (opsOf Try.f15 7) = impl_Check_tick.T7 := by kernel_rfl
theorem impl_Check_tick.bits7 : waitsOk impl_Check_tick.T7.2 impl_Check_tick.B7 = true := by kernel_rfl
set_option maxHeartbeats 8000000 in
set_option maxRecDepth 100000 in
theorem impl_Check_tick.calls (A0_0 : Option Addr) (c0_0 : Nat) (l0_0 : List Int) (a0_1 : Int) (a0_2 : Int) (a0_3 : Int) (a0_4 : Int) (a0_5 : Int) (a1 : Int) (r1 : List Int) (r2 : Int) (r3 : Int) (r4 : Int) (r5 : Int) (r6 : Int) (r7 : Bool) (w : World) (hr0_0 : Kd.C (Kd.int .u8) w A0_0 l0_0.length l0_0) (hc0_0 : l0_0.length ≤ c0_0) (h : impl_Check_tick.f l0_0 a0_1 a0_2 a0_3 a0_4 a0_5 a1 = some (r1, r2, r3, r4, r5, r6, r7)) :
  Calls Try.prog 15 #[.agg #[.slice A0_0 l0_0.length c0_0, .int .i64 a0_1, .int .i64 a0_2, .int .i64 a0_3, .int .i64 a0_4, .int .i64 a0_5], .int .i64 a1] w fun e w' => ∃ v0_ : Value, e = .returned (.tuple #[.agg #[v0_, .int .i64 r2, .int .i64 r3, .int .i64 r4, .int .i64 r5, .int .i64 r6], .bool r7]) ∧ Kd.R (Kd.int .u8) 5 w' w.heap.size (fun _ => True) v0_ r1 ∧ Below w.heap.size w w' := by
 have hu24 := Try.underlying24
 have HR0_0 := Aside0.mk hr0_0; have HC0_0 := Aside0.mk hc0_0; clear hr0_0 hc0_0
 have HB := Aside0.mk (Below.refl w.heap.size w)
 have H : ((impl_Check_own.f l0_0 a0_1 a0_2 a0_3 a0_4 a0_5).bind fun bt333 => (if a0_1 = 0 then (some (bt333.1, bt333.2.1, bt333.2.2.1, bt333.2.2.2.1, bt333.2.2.2.2.1, bt333.2.2.2.2.2, false)) else ((impl_Check_late.f bt333.1 bt333.2.1 bt333.2.2.1 bt333.2.2.2.1 (wrap64 (a0_4 + (mn a1 (wrap64 (1000 - a0_4))))) bt333.2.2.2.2.2).bind fun t342 => (if t342 = true then (some (bt333.1, bt333.2.1, bt333.2.2.1, 2, wrap64 (a0_4 + (mn a1 (wrap64 (1000 - a0_4)))), bt333.2.2.2.2.2, (2 != a0_3))) else (some (bt333.1, bt333.2.1, bt333.2.2.1, bt333.2.2.2.1, wrap64 (a0_4 + (mn a1 (wrap64 (1000 - a0_4)))), bt333.2.2.2.2.2, (bt333.2.2.2.1 != a0_3))))))) = some (r1, r2, r3, r4, r5, r6, r7) := h
 clear h; replace H := Option.bind_eq_some_iff.mp H
 obtain ⟨⟨t333, t336, t337, t338, t339, t340⟩, A30, H⟩ := H
 replace H : (if a0_1 = 0 then (some (t333, t336, t337, t338, t339, t340, false)) else ((impl_Check_late.f t333 t336 t337 t338 (wrap64 (a0_4 + (mn a1 (wrap64 (1000 - a0_4))))) t340).bind fun t342 => (if t342 = true then (some (t333, t336, t337, 2, wrap64 (a0_4 + (mn a1 (wrap64 (1000 - a0_4)))), t340, (2 != a0_3))) else (some (t333, t336, t337, t338, wrap64 (a0_4 + (mn a1 (wrap64 (1000 - a0_4)))), t340, (t338 != a0_3)))))) = some (r1, r2, r3, r4, r5, r6, r7) := H
 have A3 := Aside0.mk A30; clear A30; go_enter Try.func15, Try.ntmps15
 replace H := Aside0.mk H
 go_wp2_with (first | ((with_reducible refine gate_dst (N := 2) rfl ?_); refine box_event ?hg (N := 2) ?hd (cs := #[.slice A0_0 l0_0.length c0_0, .int .i64 a0_1, .int .i64 a0_2, .int .i64 a0_3, .int .i64 a0_4, .int .i64 a0_5]) (t := 24) ?hr ?_; (case hd => rfl); (case hg => rfl); (case hr => first | (go_simp; done) | (go_simp; rfl)); intro gb331 hg w4 hbox hb; have n_ := an (below_step (by exact bel0) hb) (an (hbox) (an ((by rw [hg]; exact (below_size (by exact bel0)) : w.heap.size ≤ gb331)) (an ((by rw [hg]; exact (below_size (by exact bel0)) : w.heap.size ≤ gb331)) (trivial)))); clear HB; obtain ⟨HB, BK331, GW331, GE331, -⟩ := n_; clear hb hbox hg) | ((with_reducible refine gate_dst (N := 4) rfl ?_); refine box_event ?hg (N := 4) ?hd (cs := #[.slice none 0 0, .int .i64 0, .int .i64 0, .int .i64 0, .int .i64 0, .int .i64 0]) (t := 24) ?hr ?_; (case hd => rfl); (case hg => rfl); (case hr => first | (go_simp; done) | (go_simp; rfl)); intro gb332 hg w5 hbox hb; have n_ := an (blk_below (blk_nw BK331.out) hb) (an (below_step (by exact bel0) hb) (an (hbox) (an ((by rw [hg]; exact (below_size (by exact bel0)) : w.heap.size ≤ gb332)) (an ((by rw [hg]; exact (below_size (by exact bel0)) : w.heap.size ≤ gb332)) (an ((by rw [hg]; exact Nat.ne_of_lt (blk_lt (blk_nw BK331.out)) : gb331 ≠ gb332)) (an ((by rw [hg]; exact Nat.ne_of_gt (blk_lt (blk_nw BK331.out)) : gb332 ≠ gb331)) (trivial))))))); clear BK331 HB; obtain ⟨BK331, HB, BK332, GW332, GE332, NB331_332, NB332_331, -⟩ := n_; clear hb hbox hg; have hnb6 := NB331_332.out; have hnc6 := NB332_331.out; obtain ⟨hcz7_0, hcz7_1, hcz7_2, hcz7_3, hcz7_4, hcz7_5⟩ := blkz6 BK331.out; have hfz7_0 := blkf BK331.out) | ((with_reducible refine gate_callee (f := 18) rfl ?_); refine goesL_ (some 8) rfl rfl Try.func18 (by kernel_rfl) rfl #[.agg #[.slice A0_0 l0_0.length c0_0, .int .i64 a0_1, .int .i64 a0_2, .int .i64 a0_3, .int .i64 a0_4, .int .i64 a0_5]] rfl (by (try simp only [List.map_toArray, List.map_cons, List.map_nil]); first | done | rfl | (simp only [List.length_drop, List.length_take]; rfl)) ?_; (with_reducible refine (impl_Check_own.calls _ _ l0_0 a0_1 a0_2 a0_3 a0_4 a0_5 t333 t336 t337 t338 t339 t340 _ ?side1 ?side2 A3.out).mono ?_); (case side1 => repeat (first | exact (Kd.C_below HR0_0.out HB.out) | (with_reducible refine Kd.C_alloc ?_ _) | (with_reducible refine Kd.C_drewN ?_ _) | (with_reducible refine Kd.C_drew ?_))); (case side2 => exact HC0_0.out); rintro e w8 ⟨v334, rfl, ho0, hb⟩; refine ⟨_, rfl, ?_⟩; have n_ := an (Kd.R_lower ho0 (below_size (by exact bel0))) (an (blk_below (blk_nw BK331.out) hb) (an (blk_below (blk_nw BK332.out) hb) (an (below_step (by exact bel0) hb) (trivial)))); clear BK331 BK332 HB; obtain ⟨HO335, BK331, BK332, HB, -⟩ := n_; (try clear hb); (try clear hb2); (try clear hk); (try clear hi); (try clear ho0)) | ((with_reducible refine gate_dst (N := 6) rfl ?_); refine box_event ?hg (N := 6) ?hd (cs := #[.slice none 0 0, .int .i64 0, .int .i64 0, .int .i64 0, .int .i64 0, .int .i64 0]) (t := 24) ?hr ?_; (case hd => rfl); (case hg => rfl); (case hr => first | (go_simp; done) | (go_simp; rfl)); intro gb341 hg w9 hbox hb; have n_ := an (Kd.R_below (by exact Kd.R_nw HO335.out) hb) (an (blk_below (blk_nw BK331.out) hb) (an (blk_below (blk_nw BK332.out) hb) (an (below_step (by exact bel0) hb) (an (hbox) (an ((by rw [hg]; exact (below_size (by exact bel0)) : w.heap.size ≤ gb341)) (an ((by rw [hg]; exact (below_size (by exact bel0)) : w.heap.size ≤ gb341)) (an ((by rw [hg]; exact Nat.ne_of_lt (blk_lt (blk_nw BK331.out)) : gb331 ≠ gb341)) (an ((by rw [hg]; exact Nat.ne_of_gt (blk_lt (blk_nw BK331.out)) : gb341 ≠ gb331)) (an ((by rw [hg]; exact Nat.ne_of_lt (blk_lt (blk_nw BK332.out)) : gb332 ≠ gb341)) (an ((by rw [hg]; exact Nat.ne_of_gt (blk_lt (blk_nw BK332.out)) : gb341 ≠ gb332)) (trivial))))))))))); clear HO335 BK331 BK332 HB; obtain ⟨HO335, BK331, BK332, HB, BK341, GW341, GE341, NB331_341, NB341_331, NB332_341, NB341_332, -⟩ := n_; clear hb hbox hg; obtain ⟨Ao10, co10, eo10⟩ := Kd.R_slice HO335.out; subst eo10; have hnb11 := NB341_331.out; have hnc11 := NB331_341.out; have hnb12 := NB341_332.out; have hnc12 := NB332_341.out; obtain ⟨hcz13_0, hcz13_1, hcz13_2, hcz13_3, hcz13_4, hcz13_5⟩ := blkz6 BK341.out; have hfz13_0 := blkf BK341.out; obtain ⟨hcz14_0, hcz14_1, hcz14_2, hcz14_3, hcz14_4, hcz14_5⟩ := blkz6 BK331.out; have hfz14_0 := blkf BK331.out; refine Stop.out ?_))
 refine Stop.mk ?_
 replace H := H.out
 by_cases c15 : a0_1 = 0
 ·rw [if_pos c15] at H; have c15b0 : (a0_1 == 0) = true := beq_iff_eq.mpr c15; have c15b1 : (a0_1 != 0) = false := bne_eq_false_iff_eq.mpr c15; clear c15; simp only [Option.some.injEq, Prod.mk.injEq] at H; obtain ⟨rfl, rfl, rfl, rfl, rfl, rfl, rfl⟩ := H; have hnb16 := NB341_331.out; have hnc16 := NB331_341.out; have hnb17 := NB341_332.out; have hnc17 := NB332_341.out; obtain ⟨hcz18_0, hcz18_1, hcz18_2, hcz18_3, hcz18_4, hcz18_5⟩ := blkz6 BK341.out; have hfz18_0 := blkf BK341.out; have hnb19 := NB332_331.out; have hnc19 := NB331_332.out; obtain ⟨hcz20_0, hcz20_1, hcz20_2, hcz20_3, hcz20_4, hcz20_5⟩ := blkz6 BK332.out; have hfz20_0 := blkf BK332.out
  go_wp2
  refine bodyPost_ret (results_ct rfl _ _ gb332 24 #[.slice Ao10 t333.length co10, .int .i64 t336, .int .i64 t337, .int .i64 t338, .int .i64 t339, .int .i64 t340] (0, 0) _ rfl (by (with_reducible repeat (first | refine blk_drewN ?_ _ | refine blk_drew ?_ | refine blk_alloc ?_ _)); refine blk_put (cs := #[.slice Ao10 t333.length co10, .int .i64 t336, .int .i64 t337, .int .i64 t338, .int .i64 t339, .int .i64 0]) ?_ 5 _ rfl; (with_reducible repeat (first | refine blk_drewN ?_ _ | refine blk_drew ?_ | refine blk_alloc ?_ _)); refine blk_put (cs := #[.slice Ao10 t333.length co10, .int .i64 t336, .int .i64 t337, .int .i64 t338, .int .i64 0, .int .i64 0]) ?_ 4 _ rfl; (with_reducible repeat (first | refine blk_drewN ?_ _ | refine blk_drew ?_ | refine blk_alloc ?_ _)); refine blk_put (cs := #[.slice Ao10 t333.length co10, .int .i64 t336, .int .i64 t337, .int .i64 0, .int .i64 0, .int .i64 0]) ?_ 3 _ rfl; (with_reducible repeat (first | refine blk_drewN ?_ _ | refine blk_drew ?_ | refine blk_alloc ?_ _)); refine blk_put (cs := #[.slice Ao10 t333.length co10, .int .i64 t336, .int .i64 0, .int .i64 0, .int .i64 0, .int .i64 0]) ?_ 2 _ rfl; (with_reducible repeat (first | refine blk_drewN ?_ _ | refine blk_drew ?_ | refine blk_alloc ?_ _)); refine blk_put (cs := #[.slice Ao10 t333.length co10, .int .i64 0, .int .i64 0, .int .i64 0, .int .i64 0, .int .i64 0]) ?_ 1 _ rfl; (with_reducible repeat (first | refine blk_drewN ?_ _ | refine blk_drew ?_ | refine blk_alloc ?_ _)); refine blk_put (cs := #[.slice none 0 0, .int .i64 0, .int .i64 0, .int .i64 0, .int .i64 0, .int .i64 0]) ?_ 0 _ rfl; (with_reducible repeat (first | refine blk_drewN ?_ _ | refine blk_drew ?_ | refine blk_alloc ?_ _)); refine blk_far ?_ NB332_341.out _; (with_reducible repeat (first | refine blk_drewN ?_ _ | refine blk_drew ?_ | refine blk_alloc ?_ _)); refine blk_far ?_ NB332_341.out _; (with_reducible repeat (first | refine blk_drewN ?_ _ | refine blk_drew ?_ | refine blk_alloc ?_ _)); refine blk_far ?_ NB332_341.out _; (with_reducible repeat (first | refine blk_drewN ?_ _ | refine blk_drew ?_ | refine blk_alloc ?_ _)); refine blk_far ?_ NB332_341.out _; (with_reducible repeat (first | refine blk_drewN ?_ _ | refine blk_drew ?_ | refine blk_alloc ?_ _)); refine blk_far ?_ NB332_341.out _; (with_reducible repeat (first | refine blk_drewN ?_ _ | refine blk_drew ?_ | refine blk_alloc ?_ _)); refine blk_far ?_ NB332_341.out _; (with_reducible repeat (first | refine blk_drewN ?_ _ | refine blk_drew ?_ | refine blk_alloc ?_ _)); exact BK332.out) Try.underlying24 rfl (by kernel_rfl)) rfl ?_
  exact ⟨_, by first | rfl | (simp [errW_none, errW_some] <;> rfl) | (simp [*, errW_none, errW_some] <;> rfl), by (with_reducible repeat (first | apply Kd.R_alloc | apply Kd.R_drewN | apply Kd.R_drew)); exact Kd.R_mono (Kd.R_far (p := ⟨gb332, 5, none⟩) (Kd.R_far (p := ⟨gb332, 4, none⟩) (Kd.R_far (p := ⟨gb332, 3, none⟩) (Kd.R_far (p := ⟨gb332, 2, none⟩) (Kd.R_far (p := ⟨gb332, 1, none⟩) (Kd.R_far (p := ⟨gb332, 0, none⟩) (Kd.R_far (p := ⟨gb341, 5, none⟩) (Kd.R_far (p := ⟨gb341, 4, none⟩) (Kd.R_far (p := ⟨gb341, 3, none⟩) (Kd.R_far (p := ⟨gb341, 2, none⟩) (Kd.R_far (p := ⟨gb341, 1, none⟩) (Kd.R_far (p := ⟨gb341, 0, none⟩) (Kd.R_types (Kd.R_types HO335.out BK341.out (by decide)) BK332.out (by decide)) (fun _ hk => hk.1.2) (.slice Ao10 t333.length co10)) (fun _ hk => hk.1.2) (.int .i64 t336)) (fun _ hk => hk.1.2) (.int .i64 t337)) (fun _ hk => hk.1.2) (.int .i64 t338)) (fun _ hk => hk.1.2) (.int .i64 t339)) (fun _ hk => hk.1.2) (.int .i64 t340)) (fun _ hk => hk.2) (.slice Ao10 t333.length co10)) (fun _ hk => hk.2) (.int .i64 t336)) (fun _ hk => hk.2) (.int .i64 t337)) (fun _ hk => hk.2) (.int .i64 t338)) (fun _ hk => hk.2) (.int .i64 t339)) (fun _ hk => hk.2) (.int .i64 t340)) (fun _ hk => trivial), by exact bel0⟩
 ·rw [if_neg c15] at H; have c15b0 : (a0_1 == 0) = false := beq_eq_false_iff_ne.mpr c15; have c15b1 : (a0_1 != 0) = true := bne_iff_ne.mpr c15
  obtain ⟨ji21, hji21⟩ : ∃ j_ : Int, (mn a1 (wrap64 (1000 - a0_4))) = j_ := ⟨_, rfl⟩
  replace H : ((impl_Check_late.f t333 t336 t337 t338 (wrap64 (a0_4 + (ji21))) t340).bind fun t342 => (if t342 = true then (some (t333, t336, t337, 2, wrap64 (a0_4 + (ji21)), t340, (2 != a0_3))) else (some (t333, t336, t337, t338, wrap64 (a0_4 + (ji21)), t340, (t338 != a0_3))))) = some (r1, r2, r3, r4, r5, r6, r7) := by first | (rw [hji21] at H; exact H) | (simp only [hji21] at H ⊢; exact H)
  have hji21_ : (if (wrap64 (1000 - a0_4)) < a1 then (wrap64 (1000 - a0_4)) else a1) = ji21 := hji21
  replace H := Option.bind_eq_some_iff.mp H; obtain ⟨t342, A220, H⟩ := H; have A22 := Aside0.mk A220; clear A220; have hnb23 := NB331_332.out; have hnc23 := NB332_331.out; have hnb24 := NB331_341.out; have hnc24 := NB341_331.out; obtain ⟨hcz25_0, hcz25_1, hcz25_2, hcz25_3, hcz25_4, hcz25_5⟩ := blkz6 BK331.out; have hfz25_0 := blkf BK331.out; have hnb26 := NB341_332.out; have hnc26 := NB332_341.out; obtain ⟨hcz27_0, hcz27_1, hcz27_2, hcz27_3, hcz27_4, hcz27_5⟩ := blkz6 BK341.out; have hfz27_0 := blkf BK341.out
  replace H := Aside0.mk H
  go_wp2_with (first | ((with_reducible refine gate_callee (f := 20) rfl ?_); refine goesL_ (some 23) rfl rfl Try.func20 (by kernel_rfl) rfl #[.agg #[.slice Ao10 t333.length co10, .int .i64 t336, .int .i64 t337, .int .i64 t338, .int .i64 (wrap64 (a0_4 + (ji21))), .int .i64 t340]] rfl (by (try simp only [List.map_toArray, List.map_cons, List.map_nil]); first | done | (simp only [hji21]; rfl) | rfl | (simp only [List.length_drop, List.length_take]; rfl)) ?_; (with_reducible refine (impl_Check_late.calls _ _ t333 t336 t337 t338 (wrap64 (a0_4 + (ji21))) t340 t342 _ ?side1 ?side2 A22.out).mono ?_); (case side1 => refine (Kd.R_reads' (e := 5) (base := w.heap.size) (ok := fun k_ => True) (n := t333.length) (c := co10) ?_).2.2; exact (by exact (Kd.R_farN HO335.out BK341.out))); (case side2 => exact (Kd.R_reads' HO335.out).2.1); rintro e w28 ⟨rfl, hb⟩; refine ⟨_, rfl, ?_⟩; have n_ := an (Kd.R_below (by exact (Kd.R_farN HO335.out BK341.out)) hb) (an (blk_below (blk_kb BK331.out NB331_341.out) hb) (an (blk_below (blk_kb BK332.out NB332_341.out) hb) (an (blk_below (g := gb341) (o := .cells #[.slice Ao10 t333.length co10, .int .i64 t336, .int .i64 t337, .int .i64 t338, .int .i64 (wrap64 (a0_4 + (ji21))), .int .i64 t340] 24 (0, 0)) (by (with_reducible repeat (first | refine blk_drewN ?_ _ | refine blk_drew ?_ | refine blk_alloc ?_ _)); refine blk_put (cs := #[.slice Ao10 t333.length co10, .int .i64 t336, .int .i64 t337, .int .i64 t338, .int .i64 t339, .int .i64 t340]) ?_ 4 _ rfl; (with_reducible repeat (first | refine blk_drewN ?_ _ | refine blk_drew ?_ | refine blk_alloc ?_ _)); refine blk_put (cs := #[.slice Ao10 t333.length co10, .int .i64 t336, .int .i64 t337, .int .i64 t338, .int .i64 t339, .int .i64 0]) ?_ 5 _ rfl; (with_reducible repeat (first | refine blk_drewN ?_ _ | refine blk_drew ?_ | refine blk_alloc ?_ _)); refine blk_put (cs := #[.slice Ao10 t333.length co10, .int .i64 t336, .int .i64 t337, .int .i64 t338, .int .i64 0, .int .i64 0]) ?_ 4 _ rfl; (with_reducible repeat (first | refine blk_drewN ?_ _ | refine blk_drew ?_ | refine blk_alloc ?_ _)); refine blk_put (cs := #[.slice Ao10 t333.length co10, .int .i64 t336, .int .i64 t337, .int .i64 0, .int .i64 0, .int .i64 0]) ?_ 3 _ rfl; (with_reducible repeat (first | refine blk_drewN ?_ _ | refine blk_drew ?_ | refine blk_alloc ?_ _)); refine blk_put (cs := #[.slice Ao10 t333.length co10, .int .i64 t336, .int .i64 0, .int .i64 0, .int .i64 0, .int .i64 0]) ?_ 2 _ rfl; (with_reducible repeat (first | refine blk_drewN ?_ _ | refine blk_drew ?_ | refine blk_alloc ?_ _)); refine blk_put (cs := #[.slice Ao10 t333.length co10, .int .i64 0, .int .i64 0, .int .i64 0, .int .i64 0, .int .i64 0]) ?_ 1 _ rfl; (with_reducible repeat (first | refine blk_drewN ?_ _ | refine blk_drew ?_ | refine blk_alloc ?_ _)); refine blk_put (cs := #[.slice none 0 0, .int .i64 0, .int .i64 0, .int .i64 0, .int .i64 0, .int .i64 0]) ?_ 0 _ rfl; (with_reducible repeat (first | refine blk_drewN ?_ _ | refine blk_drew ?_ | refine blk_alloc ?_ _)); exact BK341.out) hb) (an (below_step (by exact bel0) hb) (trivial))))); clear HO335 BK331 BK332 BK341 HB; obtain ⟨HO335, BK331, BK332, BK341, HB, -⟩ := n_; (try clear hb); (try clear hb2); (try clear hk); (try clear hi); refine Stop.out ?_))
  refine Stop.mk ?_
  replace H := H.out
  by_cases c29 : t342 = true
  ·subst c29; rw [if_pos rfl] at H; simp only [Option.some.injEq, Prod.mk.injEq] at H; obtain ⟨rfl, rfl, rfl, rfl, rfl, rfl, rfl⟩ := H; have hnb30 := NB341_331.out; have hnc30 := NB331_341.out; have hnb31 := NB341_332.out; have hnc31 := NB332_341.out; obtain ⟨hcz32_0, hcz32_1, hcz32_2, hcz32_3, hcz32_4, hcz32_5⟩ := blkz6 BK341.out; have hfz32_0 := blkf BK341.out
   try go_wp2
   have n0_ : Aside0 (Kd.R (Kd.int .u8) 5 (w28.setCell ⟨gb341, 3, none⟩ (.int .i64 2)) w.heap.size (fun _ => True) (.slice Ao10 t333.length co10) t333) := ⟨by exact (Kd.R_farN HO335.out BK341.out)⟩
   have n1_ : Aside0 ((w28.setCell ⟨gb341, 3, none⟩ (.int .i64 2)).heap[gb331]? = some (.cells #[.slice A0_0 l0_0.length c0_0, .int .i64 a0_1, .int .i64 a0_2, .int .i64 a0_3, .int .i64 a0_4, .int .i64 a0_5] 24 (0, 0))) := ⟨by exact blk_kb BK331.out NB331_341.out⟩
   have n2_ : Aside0 ((w28.setCell ⟨gb341, 3, none⟩ (.int .i64 2)).heap[gb332]? = some (.cells #[.slice none 0 0, .int .i64 0, .int .i64 0, .int .i64 0, .int .i64 0, .int .i64 0] 24 (0, 0))) := ⟨by exact blk_kb BK332.out NB332_341.out⟩
   have n3_ : Aside0 ((w28.setCell ⟨gb341, 3, none⟩ (.int .i64 2)).heap[gb341]? = some (.cells #[.slice Ao10 t333.length co10, .int .i64 t336, .int .i64 t337, .int .i64 2, .int .i64 (wrap64 (a0_4 + (ji21))), .int .i64 t340] 24 (0, 0))) := ⟨by (with_reducible repeat (first | refine blk_drewN ?_ _ | refine blk_drew ?_ | refine blk_alloc ?_ _)); refine blk_put (cs := #[.slice Ao10 t333.length co10, .int .i64 t336, .int .i64 t337, .int .i64 t338, .int .i64 (wrap64 (a0_4 + (ji21))), .int .i64 t340]) ?_ 3 _ rfl; (with_reducible repeat (first | refine blk_drewN ?_ _ | refine blk_drew ?_ | refine blk_alloc ?_ _)); exact BK341.out⟩
   have n4_ : Aside0 (Below w.heap.size w (w28.setCell ⟨gb341, 3, none⟩ (.int .i64 2))) := ⟨by exact bel0⟩
   (try clear HO335); (try clear BK331); (try clear BK332); (try clear BK341); (try clear HB)
   generalize (w28.setCell ⟨gb341, 3, none⟩ (.int .i64 2)) = w33 at n0_ n1_ n2_ n3_ n4_ ⊢
   have HO335 := n0_
   have BK331 := n1_
   have BK332 := n2_
   have BK341 := n3_
   have HB := n4_
   clear n0_ n1_ n2_ n3_ n4_
   have n_ := an (Kd.R_drew HO335.out) (an (blk_drew BK331.out) (an (blk_drew BK332.out) (an (blk_drew BK341.out) (an (below_drew1 HB.out) (trivial)))))
   clear HO335 BK331 BK332 BK341 HB
   obtain ⟨HO335, BK331, BK332, BK341, HB, -⟩ := n_
   refine start_ (n := 8) (S := fun w' => w'.cell? ⟨gb341, 0, none⟩ = some (.slice Ao10 t333.length co10) ∧ w'.cell? ⟨gb341, 1, none⟩ = some (.int .i64 t336) ∧ w'.cell? ⟨gb341, 2, none⟩ = some (.int .i64 t337) ∧ w'.cell? ⟨gb341, 3, none⟩ = some (.int .i64 2) ∧ w'.cell? ⟨gb341, 4, none⟩ = some (.int .i64 (wrap64 (a0_4 + (ji21)))) ∧ w'.cell? ⟨gb341, 5, none⟩ = some (.int .i64 t340) ∧ w'.cell? ⟨gb331, 0, none⟩ = some (.slice A0_0 l0_0.length c0_0) ∧ w'.cell? ⟨gb331, 1, none⟩ = some (.int .i64 a0_1) ∧ w'.cell? ⟨gb331, 2, none⟩ = some (.int .i64 a0_2) ∧ w'.cell? ⟨gb331, 3, none⟩ = some (.int .i64 a0_3) ∧ w'.cell? ⟨gb331, 4, none⟩ = some (.int .i64 a0_4) ∧ w'.cell? ⟨gb331, 5, none⟩ = some (.int .i64 a0_5)) (ds := []) #[false, false, false, false, false, false, false, false] (by kernel_rfl) rfl rfl ⟨(blk_cell BK341.out 0).trans rfl, (blk_cell BK341.out 1).trans rfl, (blk_cell BK341.out 2).trans rfl, (blk_cell BK341.out 3).trans rfl, (blk_cell BK341.out 4).trans rfl, (blk_cell BK341.out 5).trans rfl, (blk_cell BK331.out 0).trans rfl, (blk_cell BK331.out 1).trans rfl, (blk_cell BK331.out 2).trans rfl, (blk_cell BK331.out 3).trans rfl, (blk_cell BK331.out 4).trans rfl, (blk_cell BK331.out 5).trans rfl⟩ (fun hHeld => ?_); refine with_tabW impl_Check_tick.tab7 impl_Check_tick.bits7 (fun HT_ HW_ => ?_)
   generalize w33.drew = w34 at HO335 BK331 BK332 BK341 HB hHeld ⊢
   refine pure_ (i := 1) (N := some 26) (v := ?_) (a' := ?_) #[false, true, false, false, false, false, false, false] rfl rfl (any_of HT_.out (by kernel_rfl)) (fun _ _ _ h => h) (Or.inl ⟨by rfl, ?_⟩) ?_ ?_
   rotate_left
   ·intro w'
    go_simp
    with_reducible rfl
   rotate_left
   ·simp only [Act.put, List.setIfInBounds_toArray, List.set_cons_zero, List.set_cons_succ, i64_w, i32_w]
    rfl
   refine pure_ (i := 3) (N := some 28) (v := ?_) (a' := ?_) #[false, true, false, true, false, false, false, false] rfl rfl (any_of HT_.out (by kernel_rfl)) (fun _ _ _ h => h) (Or.inl ⟨by rfl, ?_⟩) ?_ ?_
   rotate_left
   ·intro w'
    go_simp
    with_reducible rfl
   rotate_left
   ·simp only [Act.put, List.setIfInBounds_toArray, List.set_cons_zero, List.set_cons_succ, i64_w, i32_w]
    rfl
   refine take_ (i := 0) (N := some 25) (v := ?_) (a' := ?_) #[true, true, false, true, false, false, false, false] rfl rfl (take_ofW HT_.out HW_.out (by kernel_rfl)) (fun _ _ _ h => h) (Or.inl ⟨by rfl, ?_⟩) hHeld ?_ ?_
   rotate_left
   ·rintro w' ⟨s0, s1, s2, s3, s4, s5, s6, s7, s8, s9, s10, s11⟩
    go_simp
    with_reducible rfl
   rotate_left
   ·simp only [Act.put, List.setIfInBounds_toArray, List.set_cons_zero, List.set_cons_succ, i64_w, i32_w]
    rfl
   refine take_ (i := 2) (N := some 27) (v := ?_) (a' := ?_) #[true, true, true, true, false, false, false, false] rfl rfl (take_ofW HT_.out HW_.out (by kernel_rfl)) (fun _ _ _ h => h) (Or.inl ⟨by rfl, ?_⟩) hHeld ?_ ?_
   rotate_left
   ·rintro w' ⟨s0, s1, s2, s3, s4, s5, s6, s7, s8, s9, s10, s11⟩
    go_simp
    with_reducible rfl
   rotate_left
   ·simp only [Act.put, List.setIfInBounds_toArray, List.set_cons_zero, List.set_cons_succ, i64_w, i32_w]
    rfl
   refine take_ (i := 4) (N := some 29) (v := ?_) (a' := ?_) #[true, true, true, true, true, false, false, false] rfl rfl (take_ofW HT_.out HW_.out (by kernel_rfl)) (fun _ _ _ h => h) (Or.inl ⟨by rfl, ?_⟩) hHeld ?_ ?_
   rotate_left
   ·rintro w' ⟨s0, s1, s2, s3, s4, s5, s6, s7, s8, s9, s10, s11⟩
    go_simp
    with_reducible rfl
   rotate_left
   ·simp only [Act.put, List.setIfInBounds_toArray, List.set_cons_zero, List.set_cons_succ, i64_w, i32_w]
    rfl
   refine pure_ (i := 5) (N := some 30) (v := ?_) (a' := ?_) #[true, true, true, true, true, true, false, false] rfl rfl (any_of HT_.out (by kernel_rfl)) (fun _ _ _ h => h) (Or.inl ⟨by rfl, ?_⟩) ?_ ?_
   rotate_left
   ·intro w'
    go_simp
    with_reducible rfl
   rotate_left
   ·simp only [Act.put, List.setIfInBounds_toArray, List.set_cons_zero, List.set_cons_succ, i64_w, i32_w]
    rfl
   refine one_ (i := 6) (N := none) #[true, true, true, true, true, true, true, false] rfl rfl (one_of HT_.out (by kernel_rfl)) (by decide) (fun K hK => ?_)
   have hs35 : w34.cell? ⟨gb332, 0, none⟩ = some (.slice none 0 0) := (blk_cell BK332.out 0).trans rfl
   have hfs35 := blk_frozen BK332.out 0
   have hns35_0 := NB331_332.out; have hns35_2 := NB341_332.out; have hms35_0 := NB332_331.out; have hms35_2 := NB332_341.out
   have hs36 : w34.cell? ⟨gb332, 1, none⟩ = some (.int .i64 0) := (blk_cell BK332.out 1).trans rfl
   have hfs36 := blk_frozen BK332.out 1
   have hns36_0 := NB331_332.out; have hns36_2 := NB341_332.out; have hms36_0 := NB332_331.out; have hms36_2 := NB332_341.out
   have hs37 : w34.cell? ⟨gb332, 2, none⟩ = some (.int .i64 0) := (blk_cell BK332.out 2).trans rfl
   have hfs37 := blk_frozen BK332.out 2
   have hns37_0 := NB331_332.out; have hns37_2 := NB341_332.out; have hms37_0 := NB332_331.out; have hms37_2 := NB332_341.out
   have hs38 : w34.cell? ⟨gb332, 3, none⟩ = some (.int .i64 0) := (blk_cell BK332.out 3).trans rfl
   have hfs38 := blk_frozen BK332.out 3
   have hns38_0 := NB331_332.out; have hns38_2 := NB341_332.out; have hms38_0 := NB332_331.out; have hms38_2 := NB332_341.out
   have hs39 : w34.cell? ⟨gb332, 4, none⟩ = some (.int .i64 0) := (blk_cell BK332.out 4).trans rfl
   have hfs39 := blk_frozen BK332.out 4
   have hns39_0 := NB331_332.out; have hns39_2 := NB341_332.out; have hms39_0 := NB332_331.out; have hms39_2 := NB332_341.out
   have hs40 : w34.cell? ⟨gb332, 5, none⟩ = some (.int .i64 0) := (blk_cell BK332.out 5).trans rfl
   have hfs40 := blk_frozen BK332.out 5
   have hns40_0 := NB331_332.out; have hns40_2 := NB341_332.out; have hms40_0 := NB332_331.out; have hms40_2 := NB332_341.out
   refine skip_ (w1 := ?_) (by rfl) rfl ?_ ?_
   rotate_left
   ·go_simp
    rfl
   refine hK.out _ _ ⟨((cell_far (p := ⟨gb332, _, none⟩) NB341_332.out _).trans (((cell_far (p := ⟨gb332, _, none⟩) NB341_332.out _).trans (((cell_far (p := ⟨gb332, _, none⟩) NB341_332.out _).trans (((cell_far (p := ⟨gb332, _, none⟩) NB341_332.out _).trans (((cell_far (p := ⟨gb332, _, none⟩) NB341_332.out _).trans (((cell_far (p := ⟨gb332, _, none⟩) NB341_332.out _).trans (hHeld.1)))))))))))), ((cell_far (p := ⟨gb332, _, none⟩) NB341_332.out _).trans (((cell_far (p := ⟨gb332, _, none⟩) NB341_332.out _).trans (((cell_far (p := ⟨gb332, _, none⟩) NB341_332.out _).trans (((cell_far (p := ⟨gb332, _, none⟩) NB341_332.out _).trans (((cell_far (p := ⟨gb332, _, none⟩) NB341_332.out _).trans (((cell_far (p := ⟨gb332, _, none⟩) NB341_332.out _).trans (hHeld.2.1)))))))))))), ((cell_far (p := ⟨gb332, _, none⟩) NB341_332.out _).trans (((cell_far (p := ⟨gb332, _, none⟩) NB341_332.out _).trans (((cell_far (p := ⟨gb332, _, none⟩) NB341_332.out _).trans (((cell_far (p := ⟨gb332, _, none⟩) NB341_332.out _).trans (((cell_far (p := ⟨gb332, _, none⟩) NB341_332.out _).trans (((cell_far (p := ⟨gb332, _, none⟩) NB341_332.out _).trans (hHeld.2.2.1)))))))))))), ((cell_far (p := ⟨gb332, _, none⟩) NB341_332.out _).trans (((cell_far (p := ⟨gb332, _, none⟩) NB341_332.out _).trans (((cell_far (p := ⟨gb332, _, none⟩) NB341_332.out _).trans (((cell_far (p := ⟨gb332, _, none⟩) NB341_332.out _).trans (((cell_far (p := ⟨gb332, _, none⟩) NB341_332.out _).trans (((cell_far (p := ⟨gb332, _, none⟩) NB341_332.out _).trans (hHeld.2.2.2.1)))))))))))), ((cell_far (p := ⟨gb332, _, none⟩) NB341_332.out _).trans (((cell_far (p := ⟨gb332, _, none⟩) NB341_332.out _).trans (((cell_far (p := ⟨gb332, _, none⟩) NB341_332.out _).trans (((cell_far (p := ⟨gb332, _, none⟩) NB341_332.out _).trans (((cell_far (p := ⟨gb332, _, none⟩) NB341_332.out _).trans (((cell_far (p := ⟨gb332, _, none⟩) NB341_332.out _).trans (hHeld.2.2.2.2.1)))))))))))), ((cell_far (p := ⟨gb332, _, none⟩) NB341_332.out _).trans (((cell_far (p := ⟨gb332, _, none⟩) NB341_332.out _).trans (((cell_far (p := ⟨gb332, _, none⟩) NB341_332.out _).trans (((cell_far (p := ⟨gb332, _, none⟩) NB341_332.out _).trans (((cell_far (p := ⟨gb332, _, none⟩) NB341_332.out _).trans (((cell_far (p := ⟨gb332, _, none⟩) NB341_332.out _).trans (hHeld.2.2.2.2.2.1)))))))))))), ((cell_far (p := ⟨gb332, _, none⟩) NB331_332.out _).trans (((cell_far (p := ⟨gb332, _, none⟩) NB331_332.out _).trans (((cell_far (p := ⟨gb332, _, none⟩) NB331_332.out _).trans (((cell_far (p := ⟨gb332, _, none⟩) NB331_332.out _).trans (((cell_far (p := ⟨gb332, _, none⟩) NB331_332.out _).trans (((cell_far (p := ⟨gb332, _, none⟩) NB331_332.out _).trans (hHeld.2.2.2.2.2.2.1)))))))))))), ((cell_far (p := ⟨gb332, _, none⟩) NB331_332.out _).trans (((cell_far (p := ⟨gb332, _, none⟩) NB331_332.out _).trans (((cell_far (p := ⟨gb332, _, none⟩) NB331_332.out _).trans (((cell_far (p := ⟨gb332, _, none⟩) NB331_332.out _).trans (((cell_far (p := ⟨gb332, _, none⟩) NB331_332.out _).trans (((cell_far (p := ⟨gb332, _, none⟩) NB331_332.out _).trans (hHeld.2.2.2.2.2.2.2.1)))))))))))), ((cell_far (p := ⟨gb332, _, none⟩) NB331_332.out _).trans (((cell_far (p := ⟨gb332, _, none⟩) NB331_332.out _).trans (((cell_far (p := ⟨gb332, _, none⟩) NB331_332.out _).trans (((cell_far (p := ⟨gb332, _, none⟩) NB331_332.out _).trans (((cell_far (p := ⟨gb332, _, none⟩) NB331_332.out _).trans (((cell_far (p := ⟨gb332, _, none⟩) NB331_332.out _).trans (hHeld.2.2.2.2.2.2.2.2.1)))))))))))), ((cell_far (p := ⟨gb332, _, none⟩) NB331_332.out _).trans (((cell_far (p := ⟨gb332, _, none⟩) NB331_332.out _).trans (((cell_far (p := ⟨gb332, _, none⟩) NB331_332.out _).trans (((cell_far (p := ⟨gb332, _, none⟩) NB331_332.out _).trans (((cell_far (p := ⟨gb332, _, none⟩) NB331_332.out _).trans (((cell_far (p := ⟨gb332, _, none⟩) NB331_332.out _).trans (hHeld.2.2.2.2.2.2.2.2.2.1)))))))))))), ((cell_far (p := ⟨gb332, _, none⟩) NB331_332.out _).trans (((cell_far (p := ⟨gb332, _, none⟩) NB331_332.out _).trans (((cell_far (p := ⟨gb332, _, none⟩) NB331_332.out _).trans (((cell_far (p := ⟨gb332, _, none⟩) NB331_332.out _).trans (((cell_far (p := ⟨gb332, _, none⟩) NB331_332.out _).trans (((cell_far (p := ⟨gb332, _, none⟩) NB331_332.out _).trans (hHeld.2.2.2.2.2.2.2.2.2.2.1)))))))))))), ((cell_far (p := ⟨gb332, _, none⟩) NB331_332.out _).trans (((cell_far (p := ⟨gb332, _, none⟩) NB331_332.out _).trans (((cell_far (p := ⟨gb332, _, none⟩) NB331_332.out _).trans (((cell_far (p := ⟨gb332, _, none⟩) NB331_332.out _).trans (((cell_far (p := ⟨gb332, _, none⟩) NB331_332.out _).trans (((cell_far (p := ⟨gb332, _, none⟩) NB331_332.out _).trans (hHeld.2.2.2.2.2.2.2.2.2.2.2))))))))))))⟩ (fun hHeld => ?_)
   clear hK K
   refine pure_ (i := 7) (N := some 5) (v := ?_) (a' := ?_) #[true, true, true, true, true, true, true, true] rfl rfl (any_of HT_.out (by kernel_rfl)) (fun _ _ _ h => h) (Or.inl ⟨by rfl, ?_⟩) ?_ ?_
   rotate_left
   ·intro w'
    go_simp
    with_reducible rfl
   rotate_left
   ·simp only [Act.put, List.setIfInBounds_toArray, List.set_cons_zero, List.set_cons_succ, i64_w, i32_w]
    rfl
   refine done_ (done_of HT_.out (by kernel_rfl)) ?_
   try go_wp2
   refine bodyPost_ret (results_ct rfl _ _ gb332 24 #[.slice Ao10 t333.length co10, .int .i64 t336, .int .i64 t337, .int .i64 2, .int .i64 (wrap64 (a0_4 + (ji21))), .int .i64 t340] (0, 0) _ rfl (by (with_reducible repeat (first | refine blk_drewN ?_ _ | refine blk_drew ?_ | refine blk_alloc ?_ _)); exact blk_fill6 BK332.out) Try.underlying24 rfl (by kernel_rfl)) rfl ?_
   exact ⟨_, by first | rfl | (simp [errW_none, errW_some] <;> rfl) | (simp only [← hji21]; first | rfl | (simp [errW_none, errW_some] <;> rfl)) | (simp [*, errW_none, errW_some] <;> rfl), by exact (Kd.R_farN HO335.out BK332.out), by exact bel0⟩
  ·replace c29 := Bool.eq_false_iff.mpr c29
   subst c29
   rw [if_neg (show ¬ (false = true) by decide)] at H
   simp only [Option.some.injEq, Prod.mk.injEq] at H; obtain ⟨rfl, rfl, rfl, rfl, rfl, rfl, rfl⟩ := H
   try go_wp2
   have n_ := an (Kd.R_drew HO335.out) (an (blk_drew BK331.out) (an (blk_drew BK332.out) (an (blk_drew BK341.out) (an (below_drew1 HB.out) (trivial)))))
   clear HO335 BK331 BK332 BK341 HB
   obtain ⟨HO335, BK331, BK332, BK341, HB, -⟩ := n_
   refine start_ (n := 8) (S := fun w' => w'.cell? ⟨gb341, 0, none⟩ = some (.slice Ao10 t333.length co10) ∧ w'.cell? ⟨gb341, 1, none⟩ = some (.int .i64 t336) ∧ w'.cell? ⟨gb341, 2, none⟩ = some (.int .i64 t337) ∧ w'.cell? ⟨gb341, 3, none⟩ = some (.int .i64 t338) ∧ w'.cell? ⟨gb341, 4, none⟩ = some (.int .i64 (wrap64 (a0_4 + (ji21)))) ∧ w'.cell? ⟨gb341, 5, none⟩ = some (.int .i64 t340) ∧ w'.cell? ⟨gb331, 0, none⟩ = some (.slice A0_0 l0_0.length c0_0) ∧ w'.cell? ⟨gb331, 1, none⟩ = some (.int .i64 a0_1) ∧ w'.cell? ⟨gb331, 2, none⟩ = some (.int .i64 a0_2) ∧ w'.cell? ⟨gb331, 3, none⟩ = some (.int .i64 a0_3) ∧ w'.cell? ⟨gb331, 4, none⟩ = some (.int .i64 a0_4) ∧ w'.cell? ⟨gb331, 5, none⟩ = some (.int .i64 a0_5)) (ds := []) #[false, false, false, false, false, false, false, false] (by kernel_rfl) rfl rfl ⟨(blk_cell BK341.out 0).trans rfl, (blk_cell BK341.out 1).trans rfl, (blk_cell BK341.out 2).trans rfl, (blk_cell BK341.out 3).trans rfl, (blk_cell BK341.out 4).trans rfl, (blk_cell BK341.out 5).trans rfl, (blk_cell BK331.out 0).trans rfl, (blk_cell BK331.out 1).trans rfl, (blk_cell BK331.out 2).trans rfl, (blk_cell BK331.out 3).trans rfl, (blk_cell BK331.out 4).trans rfl, (blk_cell BK331.out 5).trans rfl⟩ (fun hHeld => ?_); refine with_tabW impl_Check_tick.tab7 impl_Check_tick.bits7 (fun HT_ HW_ => ?_)
   generalize w28.drew = w41 at HO335 BK331 BK332 BK341 HB hHeld ⊢
   refine pure_ (i := 1) (N := some 26) (v := ?_) (a' := ?_) #[false, true, false, false, false, false, false, false] rfl rfl (any_of HT_.out (by kernel_rfl)) (fun _ _ _ h => h) (Or.inl ⟨by rfl, ?_⟩) ?_ ?_
   rotate_left
   ·intro w'
    go_simp
    with_reducible rfl
   rotate_left
   ·simp only [Act.put, List.setIfInBounds_toArray, List.set_cons_zero, List.set_cons_succ, i64_w, i32_w]
    rfl
   refine pure_ (i := 3) (N := some 28) (v := ?_) (a' := ?_) #[false, true, false, true, false, false, false, false] rfl rfl (any_of HT_.out (by kernel_rfl)) (fun _ _ _ h => h) (Or.inl ⟨by rfl, ?_⟩) ?_ ?_
   rotate_left
   ·intro w'
    go_simp
    with_reducible rfl
   rotate_left
   ·simp only [Act.put, List.setIfInBounds_toArray, List.set_cons_zero, List.set_cons_succ, i64_w, i32_w]
    rfl
   refine take_ (i := 0) (N := some 25) (v := ?_) (a' := ?_) #[true, true, false, true, false, false, false, false] rfl rfl (take_ofW HT_.out HW_.out (by kernel_rfl)) (fun _ _ _ h => h) (Or.inl ⟨by rfl, ?_⟩) hHeld ?_ ?_
   rotate_left
   ·rintro w' ⟨s0, s1, s2, s3, s4, s5, s6, s7, s8, s9, s10, s11⟩
    go_simp
    with_reducible rfl
   rotate_left
   ·simp only [Act.put, List.setIfInBounds_toArray, List.set_cons_zero, List.set_cons_succ, i64_w, i32_w]
    rfl
   refine take_ (i := 2) (N := some 27) (v := ?_) (a' := ?_) #[true, true, true, true, false, false, false, false] rfl rfl (take_ofW HT_.out HW_.out (by kernel_rfl)) (fun _ _ _ h => h) (Or.inl ⟨by rfl, ?_⟩) hHeld ?_ ?_
   rotate_left
   ·rintro w' ⟨s0, s1, s2, s3, s4, s5, s6, s7, s8, s9, s10, s11⟩
    go_simp
    with_reducible rfl
   rotate_left
   ·simp only [Act.put, List.setIfInBounds_toArray, List.set_cons_zero, List.set_cons_succ, i64_w, i32_w]
    rfl
   refine take_ (i := 4) (N := some 29) (v := ?_) (a' := ?_) #[true, true, true, true, true, false, false, false] rfl rfl (take_ofW HT_.out HW_.out (by kernel_rfl)) (fun _ _ _ h => h) (Or.inl ⟨by rfl, ?_⟩) hHeld ?_ ?_
   rotate_left
   ·rintro w' ⟨s0, s1, s2, s3, s4, s5, s6, s7, s8, s9, s10, s11⟩
    go_simp
    with_reducible rfl
   rotate_left
   ·simp only [Act.put, List.setIfInBounds_toArray, List.set_cons_zero, List.set_cons_succ, i64_w, i32_w]
    rfl
   refine pure_ (i := 5) (N := some 30) (v := ?_) (a' := ?_) #[true, true, true, true, true, true, false, false] rfl rfl (any_of HT_.out (by kernel_rfl)) (fun _ _ _ h => h) (Or.inl ⟨by rfl, ?_⟩) ?_ ?_
   rotate_left
   ·intro w'
    go_simp
    with_reducible rfl
   rotate_left
   ·simp only [Act.put, List.setIfInBounds_toArray, List.set_cons_zero, List.set_cons_succ, i64_w, i32_w]
    rfl
   refine one_ (i := 6) (N := none) #[true, true, true, true, true, true, true, false] rfl rfl (one_of HT_.out (by kernel_rfl)) (by decide) (fun K hK => ?_)
   have hs42 : w41.cell? ⟨gb332, 0, none⟩ = some (.slice none 0 0) := (blk_cell BK332.out 0).trans rfl
   have hfs42 := blk_frozen BK332.out 0
   have hns42_0 := NB331_332.out; have hns42_2 := NB341_332.out; have hms42_0 := NB332_331.out; have hms42_2 := NB332_341.out
   have hs43 : w41.cell? ⟨gb332, 1, none⟩ = some (.int .i64 0) := (blk_cell BK332.out 1).trans rfl
   have hfs43 := blk_frozen BK332.out 1
   have hns43_0 := NB331_332.out; have hns43_2 := NB341_332.out; have hms43_0 := NB332_331.out; have hms43_2 := NB332_341.out
   have hs44 : w41.cell? ⟨gb332, 2, none⟩ = some (.int .i64 0) := (blk_cell BK332.out 2).trans rfl
   have hfs44 := blk_frozen BK332.out 2
   have hns44_0 := NB331_332.out; have hns44_2 := NB341_332.out; have hms44_0 := NB332_331.out; have hms44_2 := NB332_341.out
   have hs45 : w41.cell? ⟨gb332, 3, none⟩ = some (.int .i64 0) := (blk_cell BK332.out 3).trans rfl
   have hfs45 := blk_frozen BK332.out 3
   have hns45_0 := NB331_332.out; have hns45_2 := NB341_332.out; have hms45_0 := NB332_331.out; have hms45_2 := NB332_341.out
   have hs46 : w41.cell? ⟨gb332, 4, none⟩ = some (.int .i64 0) := (blk_cell BK332.out 4).trans rfl
   have hfs46 := blk_frozen BK332.out 4
   have hns46_0 := NB331_332.out; have hns46_2 := NB341_332.out; have hms46_0 := NB332_331.out; have hms46_2 := NB332_341.out
   have hs47 : w41.cell? ⟨gb332, 5, none⟩ = some (.int .i64 0) := (blk_cell BK332.out 5).trans rfl
   have hfs47 := blk_frozen BK332.out 5
   have hns47_0 := NB331_332.out; have hns47_2 := NB341_332.out; have hms47_0 := NB332_331.out; have hms47_2 := NB332_341.out
   refine skip_ (w1 := ?_) (by rfl) rfl ?_ ?_
   rotate_left
   ·go_simp
    rfl
   refine hK.out _ _ ⟨((cell_far (p := ⟨gb332, _, none⟩) NB341_332.out _).trans (((cell_far (p := ⟨gb332, _, none⟩) NB341_332.out _).trans (((cell_far (p := ⟨gb332, _, none⟩) NB341_332.out _).trans (((cell_far (p := ⟨gb332, _, none⟩) NB341_332.out _).trans (((cell_far (p := ⟨gb332, _, none⟩) NB341_332.out _).trans (((cell_far (p := ⟨gb332, _, none⟩) NB341_332.out _).trans (hHeld.1)))))))))))), ((cell_far (p := ⟨gb332, _, none⟩) NB341_332.out _).trans (((cell_far (p := ⟨gb332, _, none⟩) NB341_332.out _).trans (((cell_far (p := ⟨gb332, _, none⟩) NB341_332.out _).trans (((cell_far (p := ⟨gb332, _, none⟩) NB341_332.out _).trans (((cell_far (p := ⟨gb332, _, none⟩) NB341_332.out _).trans (((cell_far (p := ⟨gb332, _, none⟩) NB341_332.out _).trans (hHeld.2.1)))))))))))), ((cell_far (p := ⟨gb332, _, none⟩) NB341_332.out _).trans (((cell_far (p := ⟨gb332, _, none⟩) NB341_332.out _).trans (((cell_far (p := ⟨gb332, _, none⟩) NB341_332.out _).trans (((cell_far (p := ⟨gb332, _, none⟩) NB341_332.out _).trans (((cell_far (p := ⟨gb332, _, none⟩) NB341_332.out _).trans (((cell_far (p := ⟨gb332, _, none⟩) NB341_332.out _).trans (hHeld.2.2.1)))))))))))), ((cell_far (p := ⟨gb332, _, none⟩) NB341_332.out _).trans (((cell_far (p := ⟨gb332, _, none⟩) NB341_332.out _).trans (((cell_far (p := ⟨gb332, _, none⟩) NB341_332.out _).trans (((cell_far (p := ⟨gb332, _, none⟩) NB341_332.out _).trans (((cell_far (p := ⟨gb332, _, none⟩) NB341_332.out _).trans (((cell_far (p := ⟨gb332, _, none⟩) NB341_332.out _).trans (hHeld.2.2.2.1)))))))))))), ((cell_far (p := ⟨gb332, _, none⟩) NB341_332.out _).trans (((cell_far (p := ⟨gb332, _, none⟩) NB341_332.out _).trans (((cell_far (p := ⟨gb332, _, none⟩) NB341_332.out _).trans (((cell_far (p := ⟨gb332, _, none⟩) NB341_332.out _).trans (((cell_far (p := ⟨gb332, _, none⟩) NB341_332.out _).trans (((cell_far (p := ⟨gb332, _, none⟩) NB341_332.out _).trans (hHeld.2.2.2.2.1)))))))))))), ((cell_far (p := ⟨gb332, _, none⟩) NB341_332.out _).trans (((cell_far (p := ⟨gb332, _, none⟩) NB341_332.out _).trans (((cell_far (p := ⟨gb332, _, none⟩) NB341_332.out _).trans (((cell_far (p := ⟨gb332, _, none⟩) NB341_332.out _).trans (((cell_far (p := ⟨gb332, _, none⟩) NB341_332.out _).trans (((cell_far (p := ⟨gb332, _, none⟩) NB341_332.out _).trans (hHeld.2.2.2.2.2.1)))))))))))), ((cell_far (p := ⟨gb332, _, none⟩) NB331_332.out _).trans (((cell_far (p := ⟨gb332, _, none⟩) NB331_332.out _).trans (((cell_far (p := ⟨gb332, _, none⟩) NB331_332.out _).trans (((cell_far (p := ⟨gb332, _, none⟩) NB331_332.out _).trans (((cell_far (p := ⟨gb332, _, none⟩) NB331_332.out _).trans (((cell_far (p := ⟨gb332, _, none⟩) NB331_332.out _).trans (hHeld.2.2.2.2.2.2.1)))))))))))), ((cell_far (p := ⟨gb332, _, none⟩) NB331_332.out _).trans (((cell_far (p := ⟨gb332, _, none⟩) NB331_332.out _).trans (((cell_far (p := ⟨gb332, _, none⟩) NB331_332.out _).trans (((cell_far (p := ⟨gb332, _, none⟩) NB331_332.out _).trans (((cell_far (p := ⟨gb332, _, none⟩) NB331_332.out _).trans (((cell_far (p := ⟨gb332, _, none⟩) NB331_332.out _).trans (hHeld.2.2.2.2.2.2.2.1)))))))))))), ((cell_far (p := ⟨gb332, _, none⟩) NB331_332.out _).trans (((cell_far (p := ⟨gb332, _, none⟩) NB331_332.out _).trans (((cell_far (p := ⟨gb332, _, none⟩) NB331_332.out _).trans (((cell_far (p := ⟨gb332, _, none⟩) NB331_332.out _).trans (((cell_far (p := ⟨gb332, _, none⟩) NB331_332.out _).trans (((cell_far (p := ⟨gb332, _, none⟩) NB331_332.out _).trans (hHeld.2.2.2.2.2.2.2.2.1)))))))))))), ((cell_far (p := ⟨gb332, _, none⟩) NB331_332.out _).trans (((cell_far (p := ⟨gb332, _, none⟩) NB331_332.out _).trans (((cell_far (p := ⟨gb332, _, none⟩) NB331_332.out _).trans (((cell_far (p := ⟨gb332, _, none⟩) NB331_332.out _).trans (((cell_far (p := ⟨gb332, _, none⟩) NB331_332.out _).trans (((cell_far (p := ⟨gb332, _, none⟩) NB331_332.out _).trans (hHeld.2.2.2.2.2.2.2.2.2.1)))))))))))), ((cell_far (p := ⟨gb332, _, none⟩) NB331_332.out _).trans (((cell_far (p := ⟨gb332, _, none⟩) NB331_332.out _).trans (((cell_far (p := ⟨gb332, _, none⟩) NB331_332.out _).trans (((cell_far (p := ⟨gb332, _, none⟩) NB331_332.out _).trans (((cell_far (p := ⟨gb332, _, none⟩) NB331_332.out _).trans (((cell_far (p := ⟨gb332, _, none⟩) NB331_332.out _).trans (hHeld.2.2.2.2.2.2.2.2.2.2.1)))))))))))), ((cell_far (p := ⟨gb332, _, none⟩) NB331_332.out _).trans (((cell_far (p := ⟨gb332, _, none⟩) NB331_332.out _).trans (((cell_far (p := ⟨gb332, _, none⟩) NB331_332.out _).trans (((cell_far (p := ⟨gb332, _, none⟩) NB331_332.out _).trans (((cell_far (p := ⟨gb332, _, none⟩) NB331_332.out _).trans (((cell_far (p := ⟨gb332, _, none⟩) NB331_332.out _).trans (hHeld.2.2.2.2.2.2.2.2.2.2.2))))))))))))⟩ (fun hHeld => ?_)
   clear hK K
   refine pure_ (i := 7) (N := some 5) (v := ?_) (a' := ?_) #[true, true, true, true, true, true, true, true] rfl rfl (any_of HT_.out (by kernel_rfl)) (fun _ _ _ h => h) (Or.inl ⟨by rfl, ?_⟩) ?_ ?_
   rotate_left
   ·intro w'
    go_simp
    with_reducible rfl
   rotate_left
   ·simp only [Act.put, List.setIfInBounds_toArray, List.set_cons_zero, List.set_cons_succ, i64_w, i32_w]
    rfl
   refine done_ (done_of HT_.out (by kernel_rfl)) ?_
   try go_wp2
   refine bodyPost_ret (results_ct rfl _ _ gb332 24 #[.slice Ao10 t333.length co10, .int .i64 t336, .int .i64 t337, .int .i64 t338, .int .i64 (wrap64 (a0_4 + (ji21))), .int .i64 t340] (0, 0) _ rfl (by (with_reducible repeat (first | refine blk_drewN ?_ _ | refine blk_drew ?_ | refine blk_alloc ?_ _)); exact blk_fill6 BK332.out) Try.underlying24 rfl (by kernel_rfl)) rfl ?_
   exact ⟨_, by first | rfl | (simp [errW_none, errW_some] <;> rfl) | (simp only [← hji21]; first | rfl | (simp [errW_none, errW_some] <;> rfl)) | (simp [*, errW_none, errW_some] <;> rfl), by exact (Kd.R_farN HO335.out BK332.out), by exact bel0⟩

/-! ### impl_CheckTick: function 5 -/
def impl_CheckTick.f (k : Nat) (l0_0 : List Int) (a0_1 : Int) (a0_2 : Int) (a0_3 : Int) (a0_4 : Int) (a0_5 : Int) (a1 : Int) : Option (List Int × Int × Int × Int × Int × Int × Bool) := (impl_CheckOk.f k l0_0 a0_1 a0_2 a0_3 a0_4 a0_5).bind fun t345 => (if t345 = true then (if a1 < 0 then (some (([] : List Int), 0, 0, 0, 0, 0, false)) else ((impl_Check_tick.f l0_0 a0_1 a0_2 a0_3 a0_4 a0_5 a1).bind fun bt346 => (some (bt346.1, bt346.2.1, bt346.2.2.1, bt346.2.2.2.1, bt346.2.2.2.2.1, bt346.2.2.2.2.2.1, bt346.2.2.2.2.2.2)))) else (some (([] : List Int), 0, 0, 0, 0, 0, false)))
theorem impl_CheckTick.mono : ∀ a0 a1 a2 a3 a4 a5 a6 k, LeO (impl_CheckTick.f k a0 a1 a2 a3 a4 a5 a6) (impl_CheckTick.f (k + 1) a0 a1 a2 a3 a4 a5 a6) := by
 intro a0 a1 a2 a3 a4 a5 a6 k
 unfold impl_CheckTick.f
 repeat' first
   | (with_reducible exact impl_CheckOk.mono _ _ _ _ _ _ _)
   | (with_reducible exact LeO.refl _)
   | (with_reducible exact LeO.none _)
   | (with_reducible refine LeO.ite ?_ ?_)
   | (with_reducible refine LeO.bind ?_ (fun _ => ?_))
   | exact impl_CheckOk.mono _ _ _ _ _ _ _
   | exact LeO.none _
   | refine LeO.ite ?_ ?_
   | refine LeO.bind ?_ (fun _ => ?_)
set_option maxHeartbeats 8000000 in
set_option maxRecDepth 100000 in
theorem impl_CheckTick.calls (k : Nat) (A0_0 : Option Addr) (c0_0 : Nat) (l0_0 : List Int) (a0_1 : Int) (a0_2 : Int) (a0_3 : Int) (a0_4 : Int) (a0_5 : Int) (a1 : Int) (r1 : List Int) (r2 : Int) (r3 : Int) (r4 : Int) (r5 : Int) (r6 : Int) (r7 : Bool) (w : World) (hr0_0 : Kd.C (Kd.int .u8) w A0_0 l0_0.length l0_0) (hc0_0 : l0_0.length ≤ c0_0) (h : impl_CheckTick.f k l0_0 a0_1 a0_2 a0_3 a0_4 a0_5 a1 = some (r1, r2, r3, r4, r5, r6, r7)) :
  Calls Try.prog 5 #[.agg #[.slice A0_0 l0_0.length c0_0, .int .i64 a0_1, .int .i64 a0_2, .int .i64 a0_3, .int .i64 a0_4, .int .i64 a0_5], .int .i64 a1] w fun e w' => ∃ v0_ : Value, e = .returned (.tuple #[.agg #[v0_, .int .i64 r2, .int .i64 r3, .int .i64 r4, .int .i64 r5, .int .i64 r6], .bool r7]) ∧ Kd.R (Kd.int .u8) 5 w' w.heap.size (fun _ => True) v0_ r1 ∧ Below w.heap.size w w' := by
 have hu24 := Try.underlying24
 have HR0_0 := Aside0.mk hr0_0; have HC0_0 := Aside0.mk hc0_0; clear hr0_0 hc0_0
 have HB := Aside0.mk (Below.refl w.heap.size w)
 have H : ((impl_CheckOk.f k l0_0 a0_1 a0_2 a0_3 a0_4 a0_5).bind fun t345 => (if t345 = true then (if a1 < 0 then (some (([] : List Int), 0, 0, 0, 0, 0, false)) else ((impl_Check_tick.f l0_0 a0_1 a0_2 a0_3 a0_4 a0_5 a1).bind fun bt346 => (some (bt346.1, bt346.2.1, bt346.2.2.1, bt346.2.2.2.1, bt346.2.2.2.2.1, bt346.2.2.2.2.2.1, bt346.2.2.2.2.2.2)))) else (some (([] : List Int), 0, 0, 0, 0, 0, false)))) = some (r1, r2, r3, r4, r5, r6, r7) := h
 clear h; replace H := Option.bind_eq_some_iff.mp H; obtain ⟨t345, A30, H⟩ := H; have A3 := Aside0.mk A30; clear A30; go_enter Try.func5, Try.ntmps5
 replace H := Aside0.mk H
 go_wp2_with (first | ((with_reducible refine gate_dst (N := 2) rfl ?_); refine box_event ?hg (N := 2) ?hd (cs := #[.slice A0_0 l0_0.length c0_0, .int .i64 a0_1, .int .i64 a0_2, .int .i64 a0_3, .int .i64 a0_4, .int .i64 a0_5]) (t := 24) ?hr ?_; (case hd => rfl); (case hg => rfl); (case hr => first | (go_simp; done) | (go_simp; rfl)); intro gb343 hg w4 hbox hb; have n_ := an (below_step (by exact bel0) hb) (an (hbox) (an ((by rw [hg]; exact (below_size (by exact bel0)) : w.heap.size ≤ gb343)) (an ((by rw [hg]; exact (below_size (by exact bel0)) : w.heap.size ≤ gb343)) (trivial)))); clear HB; obtain ⟨HB, BK343, GW343, GE343, -⟩ := n_; clear hb hbox hg) | ((with_reducible refine gate_dst (N := 4) rfl ?_); refine box_event ?hg (N := 4) ?hd (cs := #[.slice none 0 0, .int .i64 0, .int .i64 0, .int .i64 0, .int .i64 0, .int .i64 0]) (t := 24) ?hr ?_; (case hd => rfl); (case hg => rfl); (case hr => first | (go_simp; done) | (go_simp; rfl)); intro gb344 hg w5 hbox hb; have n_ := an (blk_below (blk_nw BK343.out) hb) (an (below_step (by exact bel0) hb) (an (hbox) (an ((by rw [hg]; exact (below_size (by exact bel0)) : w.heap.size ≤ gb344)) (an ((by rw [hg]; exact (below_size (by exact bel0)) : w.heap.size ≤ gb344)) (an ((by rw [hg]; exact Nat.ne_of_lt (blk_lt (blk_nw BK343.out)) : gb343 ≠ gb344)) (an ((by rw [hg]; exact Nat.ne_of_gt (blk_lt (blk_nw BK343.out)) : gb344 ≠ gb343)) (trivial))))))); clear BK343 HB; obtain ⟨BK343, HB, BK344, GW344, GE344, NB343_344, NB344_343, -⟩ := n_; clear hb hbox hg; have hnb6 := NB343_344.out; have hnc6 := NB344_343.out; obtain ⟨hcz7_0, hcz7_1, hcz7_2, hcz7_3, hcz7_4, hcz7_5⟩ := blkz6 BK343.out; have hfz7_0 := blkf BK343.out) | ((with_reducible refine gate_callee (f := 9) rfl ?_); refine goesL_ (some 7) rfl rfl Try.func9 (by kernel_rfl) rfl #[.agg #[.slice A0_0 l0_0.length c0_0, .int .i64 a0_1, .int .i64 a0_2, .int .i64 a0_3, .int .i64 a0_4, .int .i64 a0_5]] rfl (by (try simp only [List.map_toArray, List.map_cons, List.map_nil]); first | done | rfl | (simp only [List.length_drop, List.length_take]; rfl)) ?_; (with_reducible refine (impl_CheckOk.calls k _ _ l0_0 a0_1 a0_2 a0_3 a0_4 a0_5 t345 _ ?side1 ?side2 A3.out).mono ?_); (case side1 => repeat (first | exact (Kd.C_below HR0_0.out HB.out) | (with_reducible refine Kd.C_alloc ?_ _) | (with_reducible refine Kd.C_drewN ?_ _) | (with_reducible refine Kd.C_drew ?_))); (case side2 => exact HC0_0.out); rintro e w8 ⟨rfl, hb⟩; refine ⟨_, rfl, ?_⟩; have n_ := an (blk_below (blk_nw BK343.out) hb) (an (blk_below (blk_nw BK344.out) hb) (an (below_step (by exact bel0) hb) (trivial))); clear BK343 BK344 HB; obtain ⟨BK343, BK344, HB, -⟩ := n_; (try clear hb); (try clear hb2); (try clear hk); (try clear hi); refine Stop.out ?_))
 refine Stop.mk ?_
 replace H := H.out
 by_cases c9 : t345 = true
 ·subst c9; rw [if_pos rfl] at H
  by_cases c10 : a1 < 0
  ·rw [if_pos c10] at H; have c10b0 : decide (a1 < 0) = true := decide_eq_true c10; clear c10; (try simp only [c10b0]); simp only [Option.some.injEq, Prod.mk.injEq] at H; obtain ⟨rfl, rfl, rfl, rfl, rfl, rfl, rfl⟩ := H; have hnb11 := NB344_343.out; have hnc11 := NB343_344.out; obtain ⟨hcz12_0, hcz12_1, hcz12_2, hcz12_3, hcz12_4, hcz12_5⟩ := blkz6 BK344.out; have hfz12_0 := blkf BK344.out
   go_wp2
   refine bodyPost_ret (results_ct rfl _ _ gb344 24 #[.slice none 0 0, .int .i64 0, .int .i64 0, .int .i64 0, .int .i64 0, .int .i64 0] (0, 0) _ rfl (by (with_reducible repeat (first | refine blk_drewN ?_ _ | refine blk_drew ?_ | refine blk_alloc ?_ _)); exact blk_fill6 BK344.out) Try.underlying24 rfl (by kernel_rfl)) rfl ?_
   exact ⟨_, by first | rfl | (simp [errW_none, errW_some] <;> rfl) | (simp [*, errW_none, errW_some] <;> rfl), by first | exact Kd.R_nil _ _ _ _ _ | exact Kd.N_nil _ _ _ _ _ | exact Kd.V_nil _ _ _ _ _ | exact Kd.Q_nil _ _ _ _ _ | exact Kd.S_nil _ _ _ _ _, by exact bel0⟩
  ·rw [if_neg c10] at H; have c10b0 : decide (a1 < 0) = false := decide_eq_false c10; clear c10; (try simp only [c10b0]); replace H := Option.bind_eq_some_iff.mp H
   obtain ⟨⟨t346, t349, t350, t351, t352, t353, t354⟩, A130, H⟩ := H
   replace H : (some (t346, t349, t350, t351, t352, t353, t354)) = some (r1, r2, r3, r4, r5, r6, r7) := H
   have A13 := Aside0.mk A130; clear A130; simp only [Option.some.injEq, Prod.mk.injEq] at H; obtain ⟨rfl, rfl, rfl, rfl, rfl, rfl, rfl⟩ := H; have hnb14 := NB343_344.out; have hnc14 := NB344_343.out; obtain ⟨hcz15_0, hcz15_1, hcz15_2, hcz15_3, hcz15_4, hcz15_5⟩ := blkz6 BK343.out; have hfz15_0 := blkf BK343.out
   go_wp2_with (first | ((with_reducible refine gate_callee (f := 15) rfl ?_); refine goesL_ (some 16) rfl rfl Try.func15 (by kernel_rfl) rfl #[.agg #[.slice A0_0 l0_0.length c0_0, .int .i64 a0_1, .int .i64 a0_2, .int .i64 a0_3, .int .i64 a0_4, .int .i64 a0_5], .int .i64 a1] rfl (by (try simp only [List.map_toArray, List.map_cons, List.map_nil]); first | done | rfl | (simp only [List.length_drop, List.length_take]; rfl)) ?_; (with_reducible refine (impl_Check_tick.calls _ _ l0_0 a0_1 a0_2 a0_3 a0_4 a0_5 a1 t346 t349 t350 t351 t352 t353 t354 _ ?side1 ?side2 A13.out).mono ?_); (case side1 => repeat (first | exact (Kd.C_below HR0_0.out HB.out) | (with_reducible refine Kd.C_alloc ?_ _) | (with_reducible refine Kd.C_drewN ?_ _) | (with_reducible refine Kd.C_drew ?_))); (case side2 => exact HC0_0.out); rintro e w16 ⟨v347, rfl, ho0, hb⟩; refine ⟨_, rfl, ?_⟩; have n_ := an (Kd.R_lower ho0 (below_size (by exact bel0))) (an (blk_below (blk_nw BK343.out) hb) (an (blk_below (blk_nw BK344.out) hb) (an (below_step (by exact bel0) hb) (trivial)))); clear BK343 BK344 HB; obtain ⟨HO348, BK343, BK344, HB, -⟩ := n_; (try clear hb); (try clear hb2); (try clear hk); (try clear hi); (try clear ho0); obtain ⟨Ao17, co17, eo17⟩ := Kd.R_slice HO348.out; subst eo17; obtain ⟨hcz18_0, hcz18_1, hcz18_2, hcz18_3, hcz18_4, hcz18_5⟩ := blkz6 BK344.out; have hfz18_0 := blkf BK344.out))
   refine bodyPost_ret (results_ct rfl _ _ gb344 24 #[.slice Ao17 t346.length co17, .int .i64 t349, .int .i64 t350, .int .i64 t351, .int .i64 t352, .int .i64 t353] (0, 0) _ rfl (by (with_reducible repeat (first | refine blk_drewN ?_ _ | refine blk_drew ?_ | refine blk_alloc ?_ _)); exact blk_fill6 BK344.out) Try.underlying24 rfl (by kernel_rfl)) rfl ?_
   exact ⟨_, by first | rfl | (simp [errW_none, errW_some] <;> rfl) | (simp [*, errW_none, errW_some] <;> rfl), by exact (Kd.R_farN HO348.out BK344.out), by exact bel0⟩
 ·replace c9 := Bool.eq_false_iff.mpr c9
  subst c9
  rw [if_neg (show ¬ (false = true) by decide)] at H
  simp only [Option.some.injEq, Prod.mk.injEq] at H; obtain ⟨rfl, rfl, rfl, rfl, rfl, rfl, rfl⟩ := H; have hnb19 := NB344_343.out; have hnc19 := NB343_344.out; obtain ⟨hcz20_0, hcz20_1, hcz20_2, hcz20_3, hcz20_4, hcz20_5⟩ := blkz6 BK344.out; have hfz20_0 := blkf BK344.out
  go_wp2
  refine bodyPost_ret (results_ct rfl _ _ gb344 24 #[.slice none 0 0, .int .i64 0, .int .i64 0, .int .i64 0, .int .i64 0, .int .i64 0] (0, 0) _ rfl (by (with_reducible repeat (first | refine blk_drewN ?_ _ | refine blk_drew ?_ | refine blk_alloc ?_ _)); exact blk_fill6 BK344.out) Try.underlying24 rfl (by kernel_rfl)) rfl ?_
  exact ⟨_, by first | rfl | (simp [errW_none, errW_some] <;> rfl) | (simp [*, errW_none, errW_some] <;> rfl), by first | exact Kd.R_nil _ _ _ _ _ | exact Kd.N_nil _ _ _ _ _ | exact Kd.V_nil _ _ _ _ _ | exact Kd.Q_nil _ _ _ _ _ | exact Kd.S_nil _ _ _ _ _, by exact bel0⟩

/-! ### impl_StatusText: function 7 -/
def impl_StatusText.f (a0 : Int) : Option (List Int) := (impl_within.f a0 0 2).bind fun t355 => (if t355 = true then ((some (([(⟨#[112, 97, 115, 115, 105, 110, 103]⟩ : ByteArray), (⟨#[119, 97, 114, 110, 105, 110, 103]⟩ : ByteArray), (⟨#[99, 114, 105, 116, 105, 99, 97, 108]⟩ : ByteArray)] : List ByteArray) : List ByteArray)).bind fun y356 => (if 0 ≤ a0 then (if a0 < (y356.length : Int) then (if (rdOf ByteArray.empty y356 a0).size < 140737488355328 then (some (bytesOf (rdOf ByteArray.empty y356 a0))) else (none)) else (none)) else (none))) else (some ([] : List Int)))
set_option maxHeartbeats 8000000 in
set_option maxRecDepth 100000 in
theorem impl_StatusText.calls (a0 : Int) (r : List Int) (w : World) (h : impl_StatusText.f a0 = some r) :
  Calls Try.prog 7 #[.int .i64 a0] w fun e w' => ∃ v0_ : Value, e = .returned (v0_) ∧ Kd.R (Kd.int .u8) 5 w' w.heap.size (fun _ => True) v0_ r ∧ Below w.heap.size w w' := by
 have HB := Aside0.mk (Below.refl w.heap.size w)
 have H : ((impl_within.f a0 0 2).bind fun t355 => (if t355 = true then ((some (([(⟨#[112, 97, 115, 115, 105, 110, 103]⟩ : ByteArray), (⟨#[119, 97, 114, 110, 105, 110, 103]⟩ : ByteArray), (⟨#[99, 114, 105, 116, 105, 99, 97, 108]⟩ : ByteArray)] : List ByteArray) : List ByteArray)).bind fun y356 => (if 0 ≤ a0 then (if a0 < (y356.length : Int) then (if (rdOf ByteArray.empty y356 a0).size < 140737488355328 then (some (bytesOf (rdOf ByteArray.empty y356 a0))) else (none)) else (none)) else (none))) else (some ([] : List Int)))) = some r := h
 clear h; replace H := Option.bind_eq_some_iff.mp H; obtain ⟨t355, A20, H⟩ := H; have A2 := Aside0.mk A20; clear A20; go_enter Try.func7, Try.ntmps7
 replace H := Aside0.mk H
 go_wp2_with (first | ((with_reducible refine gate_callee (f := 17) rfl ?_); refine goesL_ (some 4) rfl rfl Try.func17 (by kernel_rfl) rfl #[.int .i64 a0, .int .i64 0, .int .i64 2] rfl (by (try simp only [List.map_toArray, List.map_cons, List.map_nil]); first | done | rfl | (simp only [List.length_drop, List.length_take]; rfl)) ?_; (with_reducible refine (impl_within.calls a0 0 2 t355 _ A2.out).mono ?_); rintro e w' ⟨rfl, ⟨nd, rfl⟩⟩; refine ⟨_, rfl, ?_⟩; refine Stop.out ?_))
 refine Stop.mk ?_
 replace H := H.out
 by_cases c3 : t355 = true
 ·subst c3; rw [if_pos rfl] at H
  obtain ⟨y356, hy356⟩ : ∃ y_ : List ByteArray, y_ = (([(⟨#[112, 97, 115, 115, 105, 110, 103]⟩ : ByteArray), (⟨#[119, 97, 114, 110, 105, 110, 103]⟩ : ByteArray), (⟨#[99, 114, 105, 116, 105, 99, 97, 108]⟩ : ByteArray)] : List ByteArray)) := ⟨_, rfl⟩
  replace H : (if 0 ≤ a0 then (if a0 < (y356.length : Int) then (if (rdOf ByteArray.empty y356 a0).size < 140737488355328 then (some (bytesOf (rdOf ByteArray.empty y356 a0))) else (none)) else (none)) else (none)) = some r := by first | (rw [hy356]; with_reducible exact H) | (have H2_ := (Option.bind_some _ _).symm.trans H; rw [hy356]; with_reducible exact H2_) | (have H2_ := (Option.bind_some _ _).symm.trans H; with_reducible exact H2_) | with_reducible exact H | (rw [hy356]; exact H) | exact H
  have Ny356 := Aside0.mk hy356; clear hy356
  replace H := Aside0.mk H
  go_wp2_with (first | ((with_reducible refine gate_dst (N := 6) rfl ?_); refine Kd.R_lit Kd.string _ 9 ?hg (N := 6) ?hd (xs := ([(⟨#[112, 97, 115, 115, 105, 110, 103]⟩ : ByteArray), (⟨#[119, 97, 114, 110, 105, 110, 103]⟩ : ByteArray), (⟨#[99, 114, 105, 116, 105, 99, 97, 108]⟩ : ByteArray)] : List ByteArray)) (inner := [.string (⟨#[112, 97, 115, 115, 105, 110, 103]⟩ : ByteArray), .string (⟨#[119, 97, 114, 110, 105, 110, 103]⟩ : ByteArray), .string (⟨#[99, 114, 105, 116, 105, 99, 97, 108]⟩ : ByteArray)]) (ok := fun _ => True) (okp := fun _ => True) ?hr ?hp (fun _ hk => hk) trivial (Below.refl _ _) (Nat.le_refl _) (by simp) ?_; (case hd => rfl); (case hg => rfl); (case hr => first | (go_simp; done) | (go_simp; rfl)); (case hp => exact (Reps.one (show Kd.M Kd.string _ _ _ (⟨#[112, 97, 115, 115, 105, 110, 103]⟩ : ByteArray) [.string (⟨#[112, 97, 115, 115, 105, 110, 103]⟩ : ByteArray)] from rfl) (Reps.one (show Kd.M Kd.string _ _ _ (⟨#[119, 97, 114, 110, 105, 110, 103]⟩ : ByteArray) [.string (⟨#[119, 97, 114, 110, 105, 110, 103]⟩ : ByteArray)] from rfl) (Reps.one (show Kd.M Kd.string _ _ _ (⟨#[99, 114, 105, 116, 105, 99, 97, 108]⟩ : ByteArray) [.string (⟨#[99, 114, 105, 116, 105, 99, 97, 108]⟩ : ByteArray)] from rfl) (Reps.none _ _))))); intro v357 w4 ho5 hb hg_ hnew_; clear hg_ hnew_; (first | rw [← Ny356.out] at ho5 | (simp only [Int.reduceToNat] at ho5; rw [← Ny356.out] at ho5)); have n_ := an (Kd.R_lower ho5 (below_size (by exact bel0))) (an (below_step (by exact bel0) hb) (trivial)); clear HB; obtain ⟨HO358, HB, -⟩ := n_; clear hb ho5; refine Stop.out ?_))
  refine Stop.mk ?_
  replace H := H.out
  by_cases c6 : 0 ≤ a0
  ·rw [if_pos c6] at H; have c6b0 : decide (0 ≤ a0) = true := decide_eq_true c6; clear c6; (try simp only [c6b0])
   by_cases c7 : a0 < (y356.length : Int)
   ·rw [if_pos c7] at H
    have c7b0 : decide (a0 < (y356.length : Int)) = true := decide_eq_true c7
    clear c7; (try simp only [c7b0])
    by_cases c8 : (rdOf ByteArray.empty y356 a0).size < 140737488355328
    ·rw [if_pos c8] at H; have LMc8 := Aside0.mk c8; clear c8
     obtain ⟨y360, hy360⟩ : ∃ y_ : List Int, y_ = (bytesOf (rdOf ByteArray.empty y356 a0)) := ⟨_, rfl⟩
     replace H : (some y360) = some r := by first | (rw [hy360]; with_reducible exact H) | (have H2_ := (Option.bind_some _ _).symm.trans H; rw [hy360]; with_reducible exact H2_) | (have H2_ := (Option.bind_some _ _).symm.trans H; with_reducible exact H2_) | with_reducible exact H | (rw [hy360]; exact H) | exact H
     have Ny360 := Aside0.mk hy360; clear hy360
     obtain rfl := Option.some.inj H
     obtain ⟨Ao9, co9, eo9⟩ := Kd.R_slice HO358.out
     subst eo9
     have p359 : 0 ≤ (a0 : Int) := of_decide_eq_true (by first | (with_reducible assumption) | assumption)
     have q359 : a0 < (y356.length : Int) := of_decide_eq_true (by first | (with_reducible assumption) | assumption)
     obtain ⟨ad359, e359, hx359_0⟩ := Kd.at_string (Kd.R_reads' HO358.out).2.2 a0 p359 q359
     cases e359
     replace p359 := eq_true p359
     replace q359 := eq_true q359
     go_wp2_with (first | ((with_reducible refine gate_dst (N := 10) rfl ?_); refine Kd.R_conv (w0 := w) w.heap.size rfl 9 22 5 _ rfl Try.underlying9 Try.underlying22 Try.underlying5 (rdOf ByteArray.empty y356 a0) rfl (fun _ => True) ?aF ?aB ?aS ?aL ?_; (case aB => exact (by exact bel0)); (case aF => exact (fun _ _ => trivial)); (case aS => exact (below_size (by exact bel0))); (case aL => have := LMc8.out; omega); intro v361 w10 ho hb hg hat; rw [← Ny360.out] at ho; have n_ := an (Kd.R_grown (by exact Kd.R_nw HO358.out) hg (fun _ _ => by simp [Value.ownBlock])) (an (hb) (an (ho) (trivial))); clear HO358 HB; obtain ⟨HO358, HB, HO362, -⟩ := n_; clear ho hb hg hat))
     go_ret
     exact ⟨_, by first | rfl | (simp [errW_none, errW_some] <;> rfl) | (simp [*, errW_none, errW_some] <;> rfl), by exact Kd.R_nw HO362.out, by exact bel0⟩
    ·rw [if_neg c8] at H
     exact absurd H (by simp)
   ·rw [if_neg c7] at H
    exact absurd H (by simp)
  ·rw [if_neg c6] at H
   exact absurd H (by simp)
 ·replace c3 := Bool.eq_false_iff.mpr c3
  subst c3
  rw [if_neg (show ¬ (false = true) by decide)] at H
  obtain rfl := Option.some.inj H
  go_wp2
  go_ret
  exact ⟨_, by first | rfl | (simp [errW_none, errW_some] <;> rfl) | (simp [*, errW_none, errW_some] <;> rfl), by first | exact Kd.R_nil _ _ _ _ _ | exact Kd.N_nil _ _ _ _ _ | exact Kd.V_nil _ _ _ _ _ | exact Kd.Q_nil _ _ _ _ _ | exact Kd.S_nil _ _ _ _ _, by exact bel0⟩

/-! ### impl_CheckPass: function 8 -/
def impl_CheckPass.f (k : Nat) (l0_0 : List Int) (a0_1 : Int) (a0_2 : Int) (a0_3 : Int) (a0_4 : Int) (a0_5 : Int) : Option (List Int × Int × Int × Int × Int × Int × Bool) := (impl_CheckOk.f k l0_0 a0_1 a0_2 a0_3 a0_4 a0_5).bind fun t365 => (if t365 = true then ((impl_Check_own.f l0_0 a0_1 a0_2 a0_3 a0_4 a0_5).bind fun bt366 => (some (bt366.1, bt366.2.1, bt366.2.2.1, 0, 0, 0, (0 != a0_3)))) else (some (([] : List Int), 0, 0, 0, 0, 0, false)))
theorem impl_CheckPass.mono : ∀ a0 a1 a2 a3 a4 a5 k, LeO (impl_CheckPass.f k a0 a1 a2 a3 a4 a5) (impl_CheckPass.f (k + 1) a0 a1 a2 a3 a4 a5) := by
 intro a0 a1 a2 a3 a4 a5 k
 unfold impl_CheckPass.f
 repeat' first
   | (with_reducible exact impl_CheckOk.mono _ _ _ _ _ _ _)
   | (with_reducible exact LeO.refl _)
   | (with_reducible exact LeO.none _)
   | (with_reducible refine LeO.ite ?_ ?_)
   | (with_reducible refine LeO.bind ?_ (fun _ => ?_))
   | exact impl_CheckOk.mono _ _ _ _ _ _ _
   | exact LeO.none _
   | refine LeO.ite ?_ ?_
   | refine LeO.bind ?_ (fun _ => ?_)
def impl_CheckPass.T5 : Bool × List (List Nat × List Nat) := (true, [([], []), ([], []), ([1], [1]), ([], []), ([3], [3]), ([2, 4], [2, 4]), ([0, 0], [0]), ([5, 6, 0, 1, 2, 3, 4, 5, 6], [5])])
def impl_CheckPass.B5 : List Nat := [0, 0, 2, 0, 8, 30, 1, 127]
theorem impl_CheckPass.tab5 : rtab .any (opsOf Try.f8 5) = impl_CheckPass.T5 := by kernel_rfl
theorem impl_CheckPass.bits5 : waitsOk impl_CheckPass.T5.2 impl_CheckPass.B5 = true := by kernel_rfl
set_option maxHeartbeats 8000000 in
set_option maxRecDepth 100000 in
theorem impl_CheckPass.calls (k : Nat) (A0_0 : Option Addr) (c0_0 : Nat) (l0_0 : List Int) (a0_1 : Int) (a0_2 : Int) (a0_3 : Int) (a0_4 : Int) (a0_5 : Int) (r1 : List Int) (r2 : Int) (r3 : Int) (r4 : Int) (r5 : Int) (r6 : Int) (r7 : Bool) (w : World) (hr0_0 : Kd.C (Kd.int .u8) w A0_0 l0_0.length l0_0) (hc0_0 : l0_0.length ≤ c0_0) (h : impl_CheckPass.f k l0_0 a0_1 a0_2 a0_3 a0_4 a0_5 = some (r1, r2, r3, r4, r5, r6, r7)) :
  Calls Try.prog 8 #[.agg #[.slice A0_0 l0_0.length c0_0, .int .i64 a0_1, .int .i64 a0_2, .int .i64 a0_3, .int .i64 a0_4, .int .i64 a0_5]] w fun e w' => ∃ v0_ : Value, e = .returned (.tuple #[.agg #[v0_, .int .i64 r2, .int .i64 r3, .int .i64 r4, .int .i64 r5, .int .i64 r6], .bool r7]) ∧ Kd.R (Kd.int .u8) 5 w' w.heap.size (fun _ => True) v0_ r1 ∧ Below w.heap.size w w' := by
 have hu24 := Try.underlying24
 have HR0_0 := Aside0.mk hr0_0; have HC0_0 := Aside0.mk hc0_0; clear hr0_0 hc0_0
 have HB := Aside0.mk (Below.refl w.heap.size w)
 have H : ((impl_CheckOk.f k l0_0 a0_1 a0_2 a0_3 a0_4 a0_5).bind fun t365 => (if t365 = true then ((impl_Check_own.f l0_0 a0_1 a0_2 a0_3 a0_4 a0_5).bind fun bt366 => (some (bt366.1, bt366.2.1, bt366.2.2.1, 0, 0, 0, (0 != a0_3)))) else (some (([] : List Int), 0, 0, 0, 0, 0, false)))) = some (r1, r2, r3, r4, r5, r6, r7) := h
 clear h; replace H := Option.bind_eq_some_iff.mp H; obtain ⟨t365, A20, H⟩ := H; have A2 := Aside0.mk A20; clear A20; go_enter Try.func8, Try.ntmps8
 replace H := Aside0.mk H
 go_wp2_with (first | ((with_reducible refine gate_dst (N := 1) rfl ?_); refine box_event ?hg (N := 1) ?hd (cs := #[.slice A0_0 l0_0.length c0_0, .int .i64 a0_1, .int .i64 a0_2, .int .i64 a0_3, .int .i64 a0_4, .int .i64 a0_5]) (t := 24) ?hr ?_; (case hd => rfl); (case hg => rfl); (case hr => first | (go_simp; done) | (go_simp; rfl)); intro gb363 hg w3 hbox hb; have n_ := an (below_step (by exact bel0) hb) (an (hbox) (an ((by rw [hg]; exact (below_size (by exact bel0)) : w.heap.size ≤ gb363)) (an ((by rw [hg]; exact (below_size (by exact bel0)) : w.heap.size ≤ gb363)) (trivial)))); clear HB; obtain ⟨HB, BK363, GW363, GE363, -⟩ := n_; clear hb hbox hg) | ((with_reducible refine gate_dst (N := 2) rfl ?_); refine box_event ?hg (N := 2) ?hd (cs := #[.slice none 0 0, .int .i64 0, .int .i64 0, .int .i64 0, .int .i64 0, .int .i64 0]) (t := 24) ?hr ?_; (case hd => rfl); (case hg => rfl); (case hr => first | (go_simp; done) | (go_simp; rfl)); intro gb364 hg w4 hbox hb; have n_ := an (blk_below (blk_nw BK363.out) hb) (an (below_step (by exact bel0) hb) (an (hbox) (an ((by rw [hg]; exact (below_size (by exact bel0)) : w.heap.size ≤ gb364)) (an ((by rw [hg]; exact (below_size (by exact bel0)) : w.heap.size ≤ gb364)) (an ((by rw [hg]; exact Nat.ne_of_lt (blk_lt (blk_nw BK363.out)) : gb363 ≠ gb364)) (an ((by rw [hg]; exact Nat.ne_of_gt (blk_lt (blk_nw BK363.out)) : gb364 ≠ gb363)) (trivial))))))); clear BK363 HB; obtain ⟨BK363, HB, BK364, GW364, GE364, NB363_364, NB364_363, -⟩ := n_; clear hb hbox hg; have hnb5 := NB363_364.out; have hnc5 := NB364_363.out; obtain ⟨hcz6_0, hcz6_1, hcz6_2, hcz6_3, hcz6_4, hcz6_5⟩ := blkz6 BK363.out; have hfz6_0 := blkf BK363.out) | ((with_reducible refine gate_callee (f := 9) rfl ?_); refine goesL_ (some 6) rfl rfl Try.func9 (by kernel_rfl) rfl #[.agg #[.slice A0_0 l0_0.length c0_0, .int .i64 a0_1, .int .i64 a0_2, .int .i64 a0_3, .int .i64 a0_4, .int .i64 a0_5]] rfl (by (try simp only [List.map_toArray, List.map_cons, List.map_nil]); first | done | rfl | (simp only [List.length_drop, List.length_take]; rfl)) ?_; (with_reducible refine (impl_CheckOk.calls k _ _ l0_0 a0_1 a0_2 a0_3 a0_4 a0_5 t365 _ ?side1 ?side2 A2.out).mono ?_); (case side1 => repeat (first | exact (Kd.C_below HR0_0.out HB.out) | (with_reducible refine Kd.C_alloc ?_ _) | (with_reducible refine Kd.C_drewN ?_ _) | (with_reducible refine Kd.C_drew ?_))); (case side2 => exact HC0_0.out); rintro e w7 ⟨rfl, hb⟩; refine ⟨_, rfl, ?_⟩; have n_ := an (blk_below (blk_nw BK363.out) hb) (an (blk_below (blk_nw BK364.out) hb) (an (below_step (by exact bel0) hb) (trivial))); clear BK363 BK364 HB; obtain ⟨BK363, BK364, HB, -⟩ := n_; (try clear hb); (try clear hb2); (try clear hk); (try clear hi); refine Stop.out ?_))
 refine Stop.mk ?_
 replace H := H.out
 by_cases c8 : t365 = true
 ·subst c8; rw [if_pos rfl] at H; replace H := Option.bind_eq_some_iff.mp H
  obtain ⟨⟨t366, t369, t370, t371, t372, t373⟩, A90, H⟩ := H
  replace H : (some (t366, t369, t370, 0, 0, 0, (0 != a0_3))) = some (r1, r2, r3, r4, r5, r6, r7) := H
  have A9 := Aside0.mk A90; clear A90; simp only [Option.some.injEq, Prod.mk.injEq] at H; obtain ⟨rfl, rfl, rfl, rfl, rfl, rfl, rfl⟩ := H; have hnb10 := NB363_364.out; have hnc10 := NB364_363.out; obtain ⟨hcz11_0, hcz11_1, hcz11_2, hcz11_3, hcz11_4, hcz11_5⟩ := blkz6 BK363.out; have hfz11_0 := blkf BK363.out
  try go_wp2_with (first | ((with_reducible refine gate_callee (f := 18) rfl ?_); refine goesL_ (some 10) rfl rfl Try.func18 (by kernel_rfl) rfl #[.agg #[.slice A0_0 l0_0.length c0_0, .int .i64 a0_1, .int .i64 a0_2, .int .i64 a0_3, .int .i64 a0_4, .int .i64 a0_5]] rfl (by (try simp only [List.map_toArray, List.map_cons, List.map_nil]); first | done | rfl | (simp only [List.length_drop, List.length_take]; rfl)) ?_; (with_reducible refine (impl_Check_own.calls _ _ l0_0 a0_1 a0_2 a0_3 a0_4 a0_5 t366 t369 t370 t371 t372 t373 _ ?side1 ?side2 A9.out).mono ?_); (case side1 => repeat (first | exact (Kd.C_below HR0_0.out HB.out) | (with_reducible refine Kd.C_alloc ?_ _) | (with_reducible refine Kd.C_drewN ?_ _) | (with_reducible refine Kd.C_drew ?_))); (case side2 => exact HC0_0.out); rintro e w12 ⟨v367, rfl, ho0, hb⟩; refine ⟨_, rfl, ?_⟩; have n_ := an (Kd.R_lower ho0 (below_size (by exact bel0))) (an (blk_below (blk_nw BK363.out) hb) (an (blk_below (blk_nw BK364.out) hb) (an (below_step (by exact bel0) hb) (trivial)))); clear BK363 BK364 HB; obtain ⟨HO368, BK363, BK364, HB, -⟩ := n_; (try clear hb); (try clear hb2); (try clear hk); (try clear hi); (try clear ho0)) | ((with_reducible refine gate_dst (N := 4) rfl ?_); refine box_event ?hg (N := 4) ?hd (cs := #[.slice none 0 0, .int .i64 0, .int .i64 0, .int .i64 0, .int .i64 0, .int .i64 0]) (t := 24) ?hr ?_; (case hd => rfl); (case hg => rfl); (case hr => first | (go_simp; done) | (go_simp; rfl)); intro gb374 hg w13 hbox hb; have n_ := an (Kd.R_below (by exact Kd.R_nw HO368.out) hb) (an (blk_below (blk_nw BK363.out) hb) (an (blk_below (blk_nw BK364.out) hb) (an (below_step (by exact bel0) hb) (an (hbox) (an ((by rw [hg]; exact (below_size (by exact bel0)) : w.heap.size ≤ gb374)) (an ((by rw [hg]; exact (below_size (by exact bel0)) : w.heap.size ≤ gb374)) (an ((by rw [hg]; exact Nat.ne_of_lt (blk_lt (blk_nw BK363.out)) : gb363 ≠ gb374)) (an ((by rw [hg]; exact Nat.ne_of_gt (blk_lt (blk_nw BK363.out)) : gb374 ≠ gb363)) (an ((by rw [hg]; exact Nat.ne_of_lt (blk_lt (blk_nw BK364.out)) : gb364 ≠ gb374)) (an ((by rw [hg]; exact Nat.ne_of_gt (blk_lt (blk_nw BK364.out)) : gb374 ≠ gb364)) (trivial))))))))))); clear HO368 BK363 BK364 HB; obtain ⟨HO368, BK363, BK364, HB, BK374, GW374, GE374, NB363_374, NB374_363, NB364_374, NB374_364, -⟩ := n_; clear hb hbox hg; obtain ⟨Ao14, co14, eo14⟩ := Kd.R_slice HO368.out; subst eo14; have hnb15 := NB374_363.out; have hnc15 := NB363_374.out; have hnb16 := NB374_364.out; have hnc16 := NB364_374.out; obtain ⟨hcz17_0, hcz17_1, hcz17_2, hcz17_3, hcz17_4, hcz17_5⟩ := blkz6 BK374.out; have hfz17_0 := blkf BK374.out))
  have n0_ : Aside0 (Kd.R (Kd.int .u8) 5 (((((((((w13.setCell ⟨gb374, 0, none⟩ (.slice Ao14 t366.length co14)).setCell ⟨gb374, 1, none⟩ (.int .i64 t369)).setCell ⟨gb374, 2, none⟩ (.int .i64 t370)).setCell ⟨gb374, 3, none⟩ (.int .i64 t371)).setCell ⟨gb374, 4, none⟩ (.int .i64 t372)).setCell ⟨gb374, 5, none⟩ (.int .i64 t373)).setCell ⟨gb374, 3, none⟩ (.int .i64 0)).setCell ⟨gb374, 4, none⟩ (.int .i64 0)).setCell ⟨gb374, 5, none⟩ (.int .i64 0)) w.heap.size (fun _ => True) (.slice Ao14 t366.length co14) t366) := ⟨by exact (Kd.R_farN HO368.out BK374.out)⟩
  have n1_ : Aside0 ((((((((((w13.setCell ⟨gb374, 0, none⟩ (.slice Ao14 t366.length co14)).setCell ⟨gb374, 1, none⟩ (.int .i64 t369)).setCell ⟨gb374, 2, none⟩ (.int .i64 t370)).setCell ⟨gb374, 3, none⟩ (.int .i64 t371)).setCell ⟨gb374, 4, none⟩ (.int .i64 t372)).setCell ⟨gb374, 5, none⟩ (.int .i64 t373)).setCell ⟨gb374, 3, none⟩ (.int .i64 0)).setCell ⟨gb374, 4, none⟩ (.int .i64 0)).setCell ⟨gb374, 5, none⟩ (.int .i64 0)).heap[gb363]? = some (.cells #[.slice A0_0 l0_0.length c0_0, .int .i64 a0_1, .int .i64 a0_2, .int .i64 a0_3, .int .i64 a0_4, .int .i64 a0_5] 24 (0, 0))) := ⟨by exact blk_kb BK363.out NB363_374.out⟩
  have n2_ : Aside0 ((((((((((w13.setCell ⟨gb374, 0, none⟩ (.slice Ao14 t366.length co14)).setCell ⟨gb374, 1, none⟩ (.int .i64 t369)).setCell ⟨gb374, 2, none⟩ (.int .i64 t370)).setCell ⟨gb374, 3, none⟩ (.int .i64 t371)).setCell ⟨gb374, 4, none⟩ (.int .i64 t372)).setCell ⟨gb374, 5, none⟩ (.int .i64 t373)).setCell ⟨gb374, 3, none⟩ (.int .i64 0)).setCell ⟨gb374, 4, none⟩ (.int .i64 0)).setCell ⟨gb374, 5, none⟩ (.int .i64 0)).heap[gb364]? = some (.cells #[.slice none 0 0, .int .i64 0, .int .i64 0, .int .i64 0, .int .i64 0, .int .i64 0] 24 (0, 0))) := ⟨by exact blk_kb BK364.out NB364_374.out⟩
  have n3_ : Aside0 ((((((((((w13.setCell ⟨gb374, 0, none⟩ (.slice Ao14 t366.length co14)).setCell ⟨gb374, 1, none⟩ (.int .i64 t369)).setCell ⟨gb374, 2, none⟩ (.int .i64 t370)).setCell ⟨gb374, 3, none⟩ (.int .i64 t371)).setCell ⟨gb374, 4, none⟩ (.int .i64 t372)).setCell ⟨gb374, 5, none⟩ (.int .i64 t373)).setCell ⟨gb374, 3, none⟩ (.int .i64 0)).setCell ⟨gb374, 4, none⟩ (.int .i64 0)).setCell ⟨gb374, 5, none⟩ (.int .i64 0)).heap[gb374]? = some (.cells #[.slice Ao14 t366.length co14, .int .i64 t369, .int .i64 t370, .int .i64 0, .int .i64 0, .int .i64 0] 24 (0, 0))) := ⟨by (with_reducible repeat (first | refine blk_drewN ?_ _ | refine blk_drew ?_ | refine blk_alloc ?_ _)); refine blk_put (cs := #[.slice Ao14 t366.length co14, .int .i64 t369, .int .i64 t370, .int .i64 0, .int .i64 0, .int .i64 t373]) ?_ 5 _ rfl; (with_reducible repeat (first | refine blk_drewN ?_ _ | refine blk_drew ?_ | refine blk_alloc ?_ _)); refine blk_put (cs := #[.slice Ao14 t366.length co14, .int .i64 t369, .int .i64 t370, .int .i64 0, .int .i64 t372, .int .i64 t373]) ?_ 4 _ rfl; (with_reducible repeat (first | refine blk_drewN ?_ _ | refine blk_drew ?_ | refine blk_alloc ?_ _)); refine blk_put (cs := #[.slice Ao14 t366.length co14, .int .i64 t369, .int .i64 t370, .int .i64 t371, .int .i64 t372, .int .i64 t373]) ?_ 3 _ rfl; (with_reducible repeat (first | refine blk_drewN ?_ _ | refine blk_drew ?_ | refine blk_alloc ?_ _)); refine blk_put (cs := #[.slice Ao14 t366.length co14, .int .i64 t369, .int .i64 t370, .int .i64 t371, .int .i64 t372, .int .i64 0]) ?_ 5 _ rfl; (with_reducible repeat (first | refine blk_drewN ?_ _ | refine blk_drew ?_ | refine blk_alloc ?_ _)); refine blk_put (cs := #[.slice Ao14 t366.length co14, .int .i64 t369, .int .i64 t370, .int .i64 t371, .int .i64 0, .int .i64 0]) ?_ 4 _ rfl; (with_reducible repeat (first | refine blk_drewN ?_ _ | refine blk_drew ?_ | refine blk_alloc ?_ _)); refine blk_put (cs := #[.slice Ao14 t366.length co14, .int .i64 t369, .int .i64 t370, .int .i64 0, .int .i64 0, .int .i64 0]) ?_ 3 _ rfl; (with_reducible repeat (first | refine blk_drewN ?_ _ | refine blk_drew ?_ | refine blk_alloc ?_ _)); refine blk_put (cs := #[.slice Ao14 t366.length co14, .int .i64 t369, .int .i64 0, .int .i64 0, .int .i64 0, .int .i64 0]) ?_ 2 _ rfl; (with_reducible repeat (first | refine blk_drewN ?_ _ | refine blk_drew ?_ | refine blk_alloc ?_ _)); refine blk_put (cs := #[.slice Ao14 t366.length co14, .int .i64 0, .int .i64 0, .int .i64 0, .int .i64 0, .int .i64 0]) ?_ 1 _ rfl; (with_reducible repeat (first | refine blk_drewN ?_ _ | refine blk_drew ?_ | refine blk_alloc ?_ _)); refine blk_put (cs := #[.slice none 0 0, .int .i64 0, .int .i64 0, .int .i64 0, .int .i64 0, .int .i64 0]) ?_ 0 _ rfl; (with_reducible repeat (first | refine blk_drewN ?_ _ | refine blk_drew ?_ | refine blk_alloc ?_ _)); exact BK374.out⟩
  have n4_ : Aside0 (Below w.heap.size w (((((((((w13.setCell ⟨gb374, 0, none⟩ (.slice Ao14 t366.length co14)).setCell ⟨gb374, 1, none⟩ (.int .i64 t369)).setCell ⟨gb374, 2, none⟩ (.int .i64 t370)).setCell ⟨gb374, 3, none⟩ (.int .i64 t371)).setCell ⟨gb374, 4, none⟩ (.int .i64 t372)).setCell ⟨gb374, 5, none⟩ (.int .i64 t373)).setCell ⟨gb374, 3, none⟩ (.int .i64 0)).setCell ⟨gb374, 4, none⟩ (.int .i64 0)).setCell ⟨gb374, 5, none⟩ (.int .i64 0))) := ⟨by exact bel0⟩
  (try clear HO368); (try clear BK363); (try clear BK364); (try clear BK374); (try clear HB)
  generalize (((((((((w13.setCell ⟨gb374, 0, none⟩ (.slice Ao14 t366.length co14)).setCell ⟨gb374, 1, none⟩ (.int .i64 t369)).setCell ⟨gb374, 2, none⟩ (.int .i64 t370)).setCell ⟨gb374, 3, none⟩ (.int .i64 t371)).setCell ⟨gb374, 4, none⟩ (.int .i64 t372)).setCell ⟨gb374, 5, none⟩ (.int .i64 t373)).setCell ⟨gb374, 3, none⟩ (.int .i64 0)).setCell ⟨gb374, 4, none⟩ (.int .i64 0)).setCell ⟨gb374, 5, none⟩ (.int .i64 0)) = w18 at n0_ n1_ n2_ n3_ n4_ ⊢
  have HO368 := n0_
  have BK363 := n1_
  have BK364 := n2_
  have BK374 := n3_
  have HB := n4_
  clear n0_ n1_ n2_ n3_ n4_
  have n_ := an (Kd.R_drew HO368.out) (an (blk_drew BK363.out) (an (blk_drew BK364.out) (an (blk_drew BK374.out) (an (below_drew1 HB.out) (trivial)))))
  clear HO368 BK363 BK364 BK374 HB
  obtain ⟨HO368, BK363, BK364, BK374, HB, -⟩ := n_
  refine start_ (n := 8) (S := fun w' => w'.cell? ⟨gb374, 0, none⟩ = some (.slice Ao14 t366.length co14) ∧ w'.cell? ⟨gb374, 1, none⟩ = some (.int .i64 t369) ∧ w'.cell? ⟨gb374, 2, none⟩ = some (.int .i64 t370) ∧ w'.cell? ⟨gb374, 3, none⟩ = some (.int .i64 0) ∧ w'.cell? ⟨gb374, 4, none⟩ = some (.int .i64 0) ∧ w'.cell? ⟨gb374, 5, none⟩ = some (.int .i64 0) ∧ w'.cell? ⟨gb363, 0, none⟩ = some (.slice A0_0 l0_0.length c0_0) ∧ w'.cell? ⟨gb363, 1, none⟩ = some (.int .i64 a0_1) ∧ w'.cell? ⟨gb363, 2, none⟩ = some (.int .i64 a0_2) ∧ w'.cell? ⟨gb363, 3, none⟩ = some (.int .i64 a0_3) ∧ w'.cell? ⟨gb363, 4, none⟩ = some (.int .i64 a0_4) ∧ w'.cell? ⟨gb363, 5, none⟩ = some (.int .i64 a0_5)) (ds := []) #[false, false, false, false, false, false, false, false] (by kernel_rfl) rfl rfl ⟨(blk_cell BK374.out 0).trans rfl, (blk_cell BK374.out 1).trans rfl, (blk_cell BK374.out 2).trans rfl, (blk_cell BK374.out 3).trans rfl, (blk_cell BK374.out 4).trans rfl, (blk_cell BK374.out 5).trans rfl, (blk_cell BK363.out 0).trans rfl, (blk_cell BK363.out 1).trans rfl, (blk_cell BK363.out 2).trans rfl, (blk_cell BK363.out 3).trans rfl, (blk_cell BK363.out 4).trans rfl, (blk_cell BK363.out 5).trans rfl⟩ (fun hHeld => ?_); refine with_tabW impl_CheckPass.tab5 impl_CheckPass.bits5 (fun HT_ HW_ => ?_)
  generalize w18.drew = w19 at HO368 BK363 BK364 BK374 HB hHeld ⊢
  refine pure_ (i := 1) (N := some 15) (v := ?_) (a' := ?_) #[false, true, false, false, false, false, false, false] rfl rfl (any_of HT_.out (by kernel_rfl)) (fun _ _ _ h => h) (Or.inl ⟨by rfl, ?_⟩) ?_ ?_
  rotate_left
  ·intro w'
   go_simp
   with_reducible rfl
  rotate_left
  ·simp only [Act.put, List.setIfInBounds_toArray, List.set_cons_zero, List.set_cons_succ, i64_w, i32_w]
   rfl
  refine pure_ (i := 3) (N := some 17) (v := ?_) (a' := ?_) #[false, true, false, true, false, false, false, false] rfl rfl (any_of HT_.out (by kernel_rfl)) (fun _ _ _ h => h) (Or.inl ⟨by rfl, ?_⟩) ?_ ?_
  rotate_left
  ·intro w'
   go_simp
   with_reducible rfl
  rotate_left
  ·simp only [Act.put, List.setIfInBounds_toArray, List.set_cons_zero, List.set_cons_succ, i64_w, i32_w]
   rfl
  refine take_ (i := 0) (N := some 14) (v := ?_) (a' := ?_) #[true, true, false, true, false, false, false, false] rfl rfl (take_ofW HT_.out HW_.out (by kernel_rfl)) (fun _ _ _ h => h) (Or.inl ⟨by rfl, ?_⟩) hHeld ?_ ?_
  rotate_left
  ·rintro w' ⟨s0, s1, s2, s3, s4, s5, s6, s7, s8, s9, s10, s11⟩
   go_simp
   with_reducible rfl
  rotate_left
  ·simp only [Act.put, List.setIfInBounds_toArray, List.set_cons_zero, List.set_cons_succ, i64_w, i32_w]
   rfl
  refine take_ (i := 2) (N := some 16) (v := ?_) (a' := ?_) #[true, true, true, true, false, false, false, false] rfl rfl (take_ofW HT_.out HW_.out (by kernel_rfl)) (fun _ _ _ h => h) (Or.inl ⟨by rfl, ?_⟩) hHeld ?_ ?_
  rotate_left
  ·rintro w' ⟨s0, s1, s2, s3, s4, s5, s6, s7, s8, s9, s10, s11⟩
   go_simp
   with_reducible rfl
  rotate_left
  ·simp only [Act.put, List.setIfInBounds_toArray, List.set_cons_zero, List.set_cons_succ, i64_w, i32_w]
   rfl
  refine take_ (i := 4) (N := some 18) (v := ?_) (a' := ?_) #[true, true, true, true, true, false, false, false] rfl rfl (take_ofW HT_.out HW_.out (by kernel_rfl)) (fun _ _ _ h => h) (Or.inl ⟨by rfl, ?_⟩) hHeld ?_ ?_
  rotate_left
  ·rintro w' ⟨s0, s1, s2, s3, s4, s5, s6, s7, s8, s9, s10, s11⟩
   go_simp
   with_reducible rfl
  rotate_left
  ·simp only [Act.put, List.setIfInBounds_toArray, List.set_cons_zero, List.set_cons_succ, i64_w, i32_w]
   rfl
  refine pure_ (i := 5) (N := some 19) (v := ?_) (a' := ?_) #[true, true, true, true, true, true, false, false] rfl rfl (any_of HT_.out (by kernel_rfl)) (fun _ _ _ h => h) (Or.inl ⟨by rfl, ?_⟩) ?_ ?_
  rotate_left
  ·intro w'
   go_simp
   with_reducible rfl
  rotate_left
  ·simp only [Act.put, List.setIfInBounds_toArray, List.set_cons_zero, List.set_cons_succ, i64_w, i32_w]
   rfl
  refine one_ (i := 6) (N := none) #[true, true, true, true, true, true, true, false] rfl rfl (one_of HT_.out (by kernel_rfl)) (by decide) (fun K hK => ?_)
  have hs20 : w19.cell? ⟨gb364, 0, none⟩ = some (.slice none 0 0) := (blk_cell BK364.out 0).trans rfl
  have hfs20 := blk_frozen BK364.out 0
  have hns20_0 := NB363_364.out; have hns20_2 := NB374_364.out; have hms20_0 := NB364_363.out; have hms20_2 := NB364_374.out
  have hs21 : w19.cell? ⟨gb364, 1, none⟩ = some (.int .i64 0) := (blk_cell BK364.out 1).trans rfl
  have hfs21 := blk_frozen BK364.out 1
  have hns21_0 := NB363_364.out; have hns21_2 := NB374_364.out; have hms21_0 := NB364_363.out; have hms21_2 := NB364_374.out
  have hs22 : w19.cell? ⟨gb364, 2, none⟩ = some (.int .i64 0) := (blk_cell BK364.out 2).trans rfl
  have hfs22 := blk_frozen BK364.out 2
  have hns22_0 := NB363_364.out; have hns22_2 := NB374_364.out; have hms22_0 := NB364_363.out; have hms22_2 := NB364_374.out
  have hs23 : w19.cell? ⟨gb364, 3, none⟩ = some (.int .i64 0) := (blk_cell BK364.out 3).trans rfl
  have hfs23 := blk_frozen BK364.out 3
  have hns23_0 := NB363_364.out; have hns23_2 := NB374_364.out; have hms23_0 := NB364_363.out; have hms23_2 := NB364_374.out
  have hs24 : w19.cell? ⟨gb364, 4, none⟩ = some (.int .i64 0) := (blk_cell BK364.out 4).trans rfl
  have hfs24 := blk_frozen BK364.out 4
  have hns24_0 := NB363_364.out; have hns24_2 := NB374_364.out; have hms24_0 := NB364_363.out; have hms24_2 := NB364_374.out
  have hs25 : w19.cell? ⟨gb364, 5, none⟩ = some (.int .i64 0) := (blk_cell BK364.out 5).trans rfl
  have hfs25 := blk_frozen BK364.out 5
  have hns25_0 := NB363_364.out; have hns25_2 := NB374_364.out; have hms25_0 := NB364_363.out; have hms25_2 := NB364_374.out
  refine skip_ (w1 := ?_) (by rfl) rfl ?_ ?_
  rotate_left
  ·go_simp
   rfl
  refine hK.out _ _ ⟨((cell_far (p := ⟨gb364, _, none⟩) NB374_364.out _).trans (((cell_far (p := ⟨gb364, _, none⟩) NB374_364.out _).trans (((cell_far (p := ⟨gb364, _, none⟩) NB374_364.out _).trans (((cell_far (p := ⟨gb364, _, none⟩) NB374_364.out _).trans (((cell_far (p := ⟨gb364, _, none⟩) NB374_364.out _).trans (((cell_far (p := ⟨gb364, _, none⟩) NB374_364.out _).trans (hHeld.1)))))))))))), ((cell_far (p := ⟨gb364, _, none⟩) NB374_364.out _).trans (((cell_far (p := ⟨gb364, _, none⟩) NB374_364.out _).trans (((cell_far (p := ⟨gb364, _, none⟩) NB374_364.out _).trans (((cell_far (p := ⟨gb364, _, none⟩) NB374_364.out _).trans (((cell_far (p := ⟨gb364, _, none⟩) NB374_364.out _).trans (((cell_far (p := ⟨gb364, _, none⟩) NB374_364.out _).trans (hHeld.2.1)))))))))))), ((cell_far (p := ⟨gb364, _, none⟩) NB374_364.out _).trans (((cell_far (p := ⟨gb364, _, none⟩) NB374_364.out _).trans (((cell_far (p := ⟨gb364, _, none⟩) NB374_364.out _).trans (((cell_far (p := ⟨gb364, _, none⟩) NB374_364.out _).trans (((cell_far (p := ⟨gb364, _, none⟩) NB374_364.out _).trans (((cell_far (p := ⟨gb364, _, none⟩) NB374_364.out _).trans (hHeld.2.2.1)))))))))))), ((cell_far (p := ⟨gb364, _, none⟩) NB374_364.out _).trans (((cell_far (p := ⟨gb364, _, none⟩) NB374_364.out _).trans (((cell_far (p := ⟨gb364, _, none⟩) NB374_364.out _).trans (((cell_far (p := ⟨gb364, _, none⟩) NB374_364.out _).trans (((cell_far (p := ⟨gb364, _, none⟩) NB374_364.out _).trans (((cell_far (p := ⟨gb364, _, none⟩) NB374_364.out _).trans (hHeld.2.2.2.1)))))))))))), ((cell_far (p := ⟨gb364, _, none⟩) NB374_364.out _).trans (((cell_far (p := ⟨gb364, _, none⟩) NB374_364.out _).trans (((cell_far (p := ⟨gb364, _, none⟩) NB374_364.out _).trans (((cell_far (p := ⟨gb364, _, none⟩) NB374_364.out _).trans (((cell_far (p := ⟨gb364, _, none⟩) NB374_364.out _).trans (((cell_far (p := ⟨gb364, _, none⟩) NB374_364.out _).trans (hHeld.2.2.2.2.1)))))))))))), ((cell_far (p := ⟨gb364, _, none⟩) NB374_364.out _).trans (((cell_far (p := ⟨gb364, _, none⟩) NB374_364.out _).trans (((cell_far (p := ⟨gb364, _, none⟩) NB374_364.out _).trans (((cell_far (p := ⟨gb364, _, none⟩) NB374_364.out _).trans (((cell_far (p := ⟨gb364, _, none⟩) NB374_364.out _).trans (((cell_far (p := ⟨gb364, _, none⟩) NB374_364.out _).trans (hHeld.2.2.2.2.2.1)))))))))))), ((cell_far (p := ⟨gb364, _, none⟩) NB363_364.out _).trans (((cell_far (p := ⟨gb364, _, none⟩) NB363_364.out _).trans (((cell_far (p := ⟨gb364, _, none⟩) NB363_364.out _).trans (((cell_far (p := ⟨gb364, _, none⟩) NB363_364.out _).trans (((cell_far (p := ⟨gb364, _, none⟩) NB363_364.out _).trans (((cell_far (p := ⟨gb364, _, none⟩) NB363_364.out _).trans (hHeld.2.2.2.2.2.2.1)))))))))))), ((cell_far (p := ⟨gb364, _, none⟩) NB363_364.out _).trans (((cell_far (p := ⟨gb364, _, none⟩) NB363_364.out _).trans (((cell_far (p := ⟨gb364, _, none⟩) NB363_364.out _).trans (((cell_far (p := ⟨gb364, _, none⟩) NB363_364.out _).trans (((cell_far (p := ⟨gb364, _, none⟩) NB363_364.out _).trans (((cell_far (p := ⟨gb364, _, none⟩) NB363_364.out _).trans (hHeld.2.2.2.2.2.2.2.1)))))))))))), ((cell_far (p := ⟨gb364, _, none⟩) NB363_364.out _).trans (((cell_far (p := ⟨gb364, _, none⟩) NB363_364.out _).trans (((cell_far (p := ⟨gb364, _, none⟩) NB363_364.out _).trans (((cell_far (p := ⟨gb364, _, none⟩) NB363_364.out _).trans (((cell_far (p := ⟨gb364, _, none⟩) NB363_364.out _).trans (((cell_far (p := ⟨gb364, _, none⟩) NB363_364.out _).trans (hHeld.2.2.2.2.2.2.2.2.1)))))))))))), ((cell_far (p := ⟨gb364, _, none⟩) NB363_364.out _).trans (((cell_far (p := ⟨gb364, _, none⟩) NB363_364.out _).trans (((cell_far (p := ⟨gb364, _, none⟩) NB363_364.out _).trans (((cell_far (p := ⟨gb364, _, none⟩) NB363_364.out _).trans (((cell_far (p := ⟨gb364, _, none⟩) NB363_364.out _).trans (((cell_far (p := ⟨gb364, _, none⟩) NB363_364.out _).trans (hHeld.2.2.2.2.2.2.2.2.2.1)))))))))))), ((cell_far (p := ⟨gb364, _, none⟩) NB363_364.out _).trans (((cell_far (p := ⟨gb364, _, none⟩) NB363_364.out _).trans (((cell_far (p := ⟨gb364, _, none⟩) NB363_364.out _).trans (((cell_far (p := ⟨gb364, _, none⟩) NB363_364.out _).trans (((cell_far (p := ⟨gb364, _, none⟩) NB363_364.out _).trans (((cell_far (p := ⟨gb364, _, none⟩) NB363_364.out _).trans (hHeld.2.2.2.2.2.2.2.2.2.2.1)))))))))))), ((cell_far (p := ⟨gb364, _, none⟩) NB363_364.out _).trans (((cell_far (p := ⟨gb364, _, none⟩) NB363_364.out _).trans (((cell_far (p := ⟨gb364, _, none⟩) NB363_364.out _).trans (((cell_far (p := ⟨gb364, _, none⟩) NB363_364.out _).trans (((cell_far (p := ⟨gb364, _, none⟩) NB363_364.out _).trans (((cell_far (p := ⟨gb364, _, none⟩) NB363_364.out _).trans (hHeld.2.2.2.2.2.2.2.2.2.2.2))))))))))))⟩ (fun hHeld => ?_)
  clear hK K
  refine pure_ (i := 7) (N := some 3) (v := ?_) (a' := ?_) #[true, true, true, true, true, true, true, true] rfl rfl (any_of HT_.out (by kernel_rfl)) (fun _ _ _ h => h) (Or.inl ⟨by rfl, ?_⟩) ?_ ?_
  rotate_left
  ·intro w'
   go_simp
   with_reducible rfl
  rotate_left
  ·simp only [Act.put, List.setIfInBounds_toArray, List.set_cons_zero, List.set_cons_succ, i64_w, i32_w]
   rfl
  refine done_ (done_of HT_.out (by kernel_rfl)) ?_
  try go_wp2
  refine bodyPost_ret (results_ct rfl _ _ gb364 24 #[.slice Ao14 t366.length co14, .int .i64 t369, .int .i64 t370, .int .i64 0, .int .i64 0, .int .i64 0] (0, 0) _ rfl (by (with_reducible repeat (first | refine blk_drewN ?_ _ | refine blk_drew ?_ | refine blk_alloc ?_ _)); exact blk_fill6 BK364.out) Try.underlying24 rfl (by kernel_rfl)) rfl ?_
  exact ⟨_, by first | rfl | (simp [errW_none, errW_some] <;> rfl) | (simp [*, errW_none, errW_some] <;> rfl), by exact (Kd.R_farN HO368.out BK364.out), by exact bel0⟩
 ·replace c8 := Bool.eq_false_iff.mpr c8
  subst c8
  rw [if_neg (show ¬ (false = true) by decide)] at H
  simp only [Option.some.injEq, Prod.mk.injEq] at H; obtain ⟨rfl, rfl, rfl, rfl, rfl, rfl, rfl⟩ := H; have hnb26 := NB364_363.out; have hnc26 := NB363_364.out; obtain ⟨hcz27_0, hcz27_1, hcz27_2, hcz27_3, hcz27_4, hcz27_5⟩ := blkz6 BK364.out; have hfz27_0 := blkf BK364.out
  go_wp2
  refine bodyPost_ret (results_ct rfl _ _ gb364 24 #[.slice none 0 0, .int .i64 0, .int .i64 0, .int .i64 0, .int .i64 0, .int .i64 0] (0, 0) _ rfl (by (with_reducible repeat (first | refine blk_drewN ?_ _ | refine blk_drew ?_ | refine blk_alloc ?_ _)); exact blk_fill6 BK364.out) Try.underlying24 rfl (by kernel_rfl)) rfl ?_
  exact ⟨_, by first | rfl | (simp [errW_none, errW_some] <;> rfl) | (simp [*, errW_none, errW_some] <;> rfl), by first | exact Kd.R_nil _ _ _ _ _ | exact Kd.N_nil _ _ _ _ _ | exact Kd.V_nil _ _ _ _ _ | exact Kd.Q_nil _ _ _ _ _ | exact Kd.S_nil _ _ _ _ _, by exact bel0⟩

end Go.Proofs.Ytgkoinnjpcpccaa.XFnChecks
