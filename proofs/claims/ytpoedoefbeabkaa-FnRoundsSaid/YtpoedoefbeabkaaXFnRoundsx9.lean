-- Written by this session's own program (xprint.py) over the kit's print.
import Derived.Test.YtpoedoefbeabkaaXFnRoundsx0
import Derived.Test.YtpoedoefbeabkaaXFnRoundsx1
import Derived.Test.YtpoedoefbeabkaaXFnRoundsx6
import Derived.Test.YtpoedoefbeabkaaXFnRoundsx7
import Derived.Test.YtpoedoefbeabkaaXFnRoundsx8
namespace Go.Proofs.Ytpoedoefbeabkaa.XFnRounds
open Go.RowKit Go.Proofs.YtpoedoefbeabkaaW.PrintWords Go.Proofs.YtpoedoefbeabkaaW.PrintLast Go.Proofs.YtpoedoefbeabkaaW.PrintMore
attribute [local go_sem] max2_int min2_int max_two min_two max_three min_three max_four min_four   -- for this text's walks alone
set_option linter.unusedVariables false
set_option linter.unusedSimpArgs false

/-! ### spec_DrawNextProbe: function 5 -/
def spec_DrawNextProbe.f (k : Nat) (l0 : List Int) : Option (List Int × Int × Int × Int × Int × Int × Int × (List (S40))) := (spec_l1New.f k l0).bind fun bt406 => ((spec_l10bent.f k bt406.1 bt406.2.1 bt406.2.2).bind fun bt410 => ((spec_l11draw.f k bt406.1 bt410.2.2.1 bt410.2.2.2 bt410.1 bt410.2.1).bind fun bt417 => ((spec_l11bent.f bt406.1 bt417.2.2.2.2.2.2.1 bt417.2.2.2.2.2.2.2 bt417.1 bt417.2.1 bt417.2.2.1 bt417.2.2.2.1 bt417.2.2.2.2.1 bt417.2.2.2.2.2.1).bind fun bt427 => (some (bt427.1, bt427.2.1, bt427.2.2.1, bt427.2.2.2.1, bt427.2.2.2.2.1, bt427.2.2.2.2.2.1, bt410.1, bt410.2.1)))))
theorem spec_DrawNextProbe.mono : ∀ a0 k, LeO (spec_DrawNextProbe.f k a0) (spec_DrawNextProbe.f (k + 1) a0) := by
 intro a0 k
 unfold spec_DrawNextProbe.f
 repeat' first
   | (with_reducible exact spec_l10bent.mono _ _ _ _)
   | (with_reducible exact spec_l11draw.mono _ _ _ _ _ _)
   | (with_reducible exact spec_l1New.mono _ _)
   | (with_reducible exact LeO.refl _)
   | (with_reducible exact LeO.none _)
   | (with_reducible refine LeO.ite ?_ ?_)
   | (with_reducible refine LeO.bind ?_ (fun _ => ?_))
   | exact spec_l10bent.mono _ _ _ _
   | exact spec_l11draw.mono _ _ _ _ _ _
   | exact spec_l1New.mono _ _
   | exact LeO.none _
   | refine LeO.ite ?_ ?_
   | refine LeO.bind ?_ (fun _ => ?_)
def spec_DrawNextProbe.T3 : Bool × List (List Nat × List Nat) := (true, [([], []), ([], []), ([], []), ([1, 2], [1, 2]), ([0, 3, 3], [0, 3]), ([], []), ([4, 4, 0, 1, 2, 3, 4], [4]), ([5, 6, 0, 1, 2, 3, 4, 5, 6], [5])])
def spec_DrawNextProbe.B3 : List Nat := [0, 0, 0, 6, 15, 0, 31, 127]
theorem spec_DrawNextProbe.tab3 : rtab .any (opsOf Try.f5 3) = spec_DrawNextProbe.T3 := by kernel_rfl
theorem spec_DrawNextProbe.bits3 : waitsOk spec_DrawNextProbe.T3.2 spec_DrawNextProbe.B3 = true := by kernel_rfl
set_option maxHeartbeats 8000000 in
set_option maxRecDepth 100000 in
theorem spec_DrawNextProbe.calls (k : Nat) (A0 : Option Addr) (c0 : Nat) (l0 : List Int) (r1 : List Int) (r2 : Int) (r3 : Int) (r4 : Int) (r5 : Int) (r6 : Int) (r7 : Int) (r8 : List (S40)) (w : World) (hr0 : Kd.C (Kd.int .u8) w A0 l0.length l0) (hc0 : l0.length ≤ c0) (h : spec_DrawNextProbe.f k l0 = some (r1, r2, r3, r4, r5, r6, r7, r8)) :
  Calls Try.prog 5 #[.slice A0 l0.length c0] w fun e w' => ∃ v0_ v7_ : Value, e = .returned (.tuple #[.agg #[v0_, .int .i64 r2, .int .i64 r3, .int .i64 r4, .int .i64 r5, .int .i64 r6], .agg #[.int .i64 r7, v7_]]) ∧ Kd.R (Kd.int .i64) 3 w' w.heap.size (fun _ => True) v0_ r1 ∧ Kd.Q k40 40 w' w.heap.size (fun _ => True) v7_ r8 ∧ Below w.heap.size w w' := by
 have hu25 := Try.underlying25
 have hu28 := Try.underlying28
 have HR0 := Aside0.mk hr0; have HC0 := Aside0.mk hc0; clear hr0 hc0
 have HB := Aside0.mk (Below.refl w.heap.size w)
 have H : ((spec_l1New.f k l0).bind fun bt406 => ((spec_l10bent.f k bt406.1 bt406.2.1 bt406.2.2).bind fun bt410 => ((spec_l11draw.f k bt406.1 bt410.2.2.1 bt410.2.2.2 bt410.1 bt410.2.1).bind fun bt417 => ((spec_l11bent.f bt406.1 bt417.2.2.2.2.2.2.1 bt417.2.2.2.2.2.2.2 bt417.1 bt417.2.1 bt417.2.2.1 bt417.2.2.2.1 bt417.2.2.2.2.1 bt417.2.2.2.2.2.1).bind fun bt427 => (some (bt427.1, bt427.2.1, bt427.2.2.1, bt427.2.2.2.1, bt427.2.2.2.2.1, bt427.2.2.2.2.2.1, bt410.1, bt410.2.1)))))) = some (r1, r2, r3, r4, r5, r6, r7, r8) := h
 clear h; replace H := Option.bind_eq_some_iff.mp H
 obtain ⟨⟨t406, t407, t408⟩, A20, H⟩ := H
 replace H : ((spec_l10bent.f k t406 t407 t408).bind fun bt410 => ((spec_l11draw.f k t406 bt410.2.2.1 bt410.2.2.2 bt410.1 bt410.2.1).bind fun bt417 => ((spec_l11bent.f t406 bt417.2.2.2.2.2.2.1 bt417.2.2.2.2.2.2.2 bt417.1 bt417.2.1 bt417.2.2.1 bt417.2.2.2.1 bt417.2.2.2.2.1 bt417.2.2.2.2.2.1).bind fun bt427 => (some (bt427.1, bt427.2.1, bt427.2.2.1, bt427.2.2.2.1, bt427.2.2.2.2.1, bt427.2.2.2.2.2.1, bt410.1, bt410.2.1))))) = some (r1, r2, r3, r4, r5, r6, r7, r8) := H
 have A2 := Aside0.mk A20; clear A20; replace H := Option.bind_eq_some_iff.mp H
 obtain ⟨⟨t410, t411, t414, t415⟩, A30, H⟩ := H
 replace H : ((spec_l11draw.f k t406 t414 t415 t410 t411).bind fun bt417 => ((spec_l11bent.f t406 bt417.2.2.2.2.2.2.1 bt417.2.2.2.2.2.2.2 bt417.1 bt417.2.1 bt417.2.2.1 bt417.2.2.2.1 bt417.2.2.2.2.1 bt417.2.2.2.2.2.1).bind fun bt427 => (some (bt427.1, bt427.2.1, bt427.2.2.1, bt427.2.2.2.1, bt427.2.2.2.2.1, bt427.2.2.2.2.2.1, t410, t411)))) = some (r1, r2, r3, r4, r5, r6, r7, r8) := H
 have A3 := Aside0.mk A30; clear A30; replace H := Option.bind_eq_some_iff.mp H
 obtain ⟨⟨t417, t420, t421, t422, t423, t424, t425, t426⟩, A40, H⟩ := H
 replace H : ((spec_l11bent.f t406 t425 t426 t417 t420 t421 t422 t423 t424).bind fun bt427 => (some (bt427.1, bt427.2.1, bt427.2.2.1, bt427.2.2.2.1, bt427.2.2.2.2.1, bt427.2.2.2.2.2.1, t410, t411))) = some (r1, r2, r3, r4, r5, r6, r7, r8) := H
 have A4 := Aside0.mk A40; clear A40; replace H := Option.bind_eq_some_iff.mp H
 obtain ⟨⟨t427, t430, t431, t432, t433, t434, t435, t436⟩, A50, H⟩ := H
 replace H : (some (t427, t430, t431, t432, t433, t434, t410, t411)) = some (r1, r2, r3, r4, r5, r6, r7, r8) := H
 have A5 := Aside0.mk A50; clear A50; simp only [Option.some.injEq, Prod.mk.injEq] at H; obtain ⟨rfl, rfl, rfl, rfl, rfl, rfl, rfl, rfl⟩ := H; go_enter Try.func5, Try.ntmps5
 try go_wp2_with (first | ((with_reducible refine gate_dst (N := 2) rfl ?_); refine box_event ?hg (N := 2) ?hd (cs := #[.slice none 0 0, .int .i64 0, .int .i64 0, .int .i64 0, .int .i64 0, .int .i64 0]) (t := 25) ?hr ?_; (case hd => rfl); (case hg => rfl); (case hr => first | (go_simp; done) | (go_simp; rfl)); intro gb404 hg w6 hbox hb; have n_ := an (below_step (by exact bel0) hb) (an (hbox) (an ((by rw [hg]; exact (below_size (by exact bel0)) : w.heap.size ≤ gb404)) (an ((by rw [hg]; exact (below_size (by exact bel0)) : w.heap.size ≤ gb404)) (trivial)))); clear HB; obtain ⟨HB, BK404, GW404, GE404, -⟩ := n_; clear hb hbox hg) | ((with_reducible refine gate_dst (N := 3) rfl ?_); refine box_event ?hg (N := 3) ?hd (cs := #[.int .i64 0, .slice none 0 0]) (t := 28) ?hr ?_; (case hd => rfl); (case hg => rfl); (case hr => first | (go_simp; done) | (go_simp; rfl)); intro gb405 hg w7 hbox hb; have n_ := an (blk_below (blk_nw BK404.out) hb) (an (below_step (by exact bel0) hb) (an (hbox) (an ((by rw [hg]; exact (below_size (by exact bel0)) : w.heap.size ≤ gb405)) (an ((by rw [hg]; exact (below_size (by exact bel0)) : w.heap.size ≤ gb405)) (an ((by rw [hg]; exact Nat.ne_of_lt (blk_lt (blk_nw BK404.out)) : gb404 ≠ gb405)) (an ((by rw [hg]; exact Nat.ne_of_gt (blk_lt (blk_nw BK404.out)) : gb405 ≠ gb404)) (trivial))))))); clear BK404 HB; obtain ⟨BK404, HB, BK405, GW405, GE405, NB404_405, NB405_404, -⟩ := n_; clear hb hbox hg) | ((with_reducible refine gate_callee (f := 18) rfl ?_); refine goesL_ (some 7) rfl rfl Try.func18 (by kernel_rfl) rfl #[.slice A0 l0.length c0] rfl (by (try simp only [List.map_toArray, List.map_cons, List.map_nil]); first | done | rfl | (simp only [List.length_drop, List.length_take]; rfl)) ?_; (with_reducible refine (spec_l1New.calls k _ _ l0 t406 t407 t408 w _ ?side1 ?side2 ?side3 A2.out).mono ?_); (case side1 => exact bel0); (case side2 => exact HR0.out); (case side3 => exact HC0.out); rintro e w8 ⟨g409, rfl, hi, hb, hb2⟩; refine ⟨_, rfl, ?_⟩; have n_ := an (blk_below (blk_nw BK404.out) hb2) (an (blk_below (blk_nw BK405.out) hb2) (an (hb) (an (hi) (an (IsS62.ne_blk hi (blk_below (blk_nw BK404.out) hb2) (by decide)) (an (Ne.symm (IsS62.ne_blk hi (blk_below (blk_nw BK404.out) hb2) (by decide))) (an (IsS62.ne_blk hi (blk_below (blk_nw BK405.out) hb2) (by decide)) (an (Ne.symm (IsS62.ne_blk hi (blk_below (blk_nw BK405.out) hb2) (by decide))) (trivial)))))))); clear BK404 BK405 HB; obtain ⟨BK404, BK405, HB, HI409, NB409_404, NB404_409, NB409_405, NB405_409, -⟩ := n_; (try clear hb); (try clear hb2); (try clear hk); (try clear hi)) | ((with_reducible refine gate_callee (f := 19) rfl ?_); refine goesL_ (some 9) rfl rfl Try.func19 (by kernel_rfl) rfl #[.pointer (some ⟨g409, 0, none⟩)] rfl (by (try simp only [List.map_toArray, List.map_cons, List.map_nil]); first | done | rfl | (simp only [List.length_drop, List.length_take]; rfl)) ?_; (with_reducible refine (spec_l10bent.calls k g409 t406 t407 t408 t410 t411 t414 t415 w _ ?side1 ?side2 A3.out).mono ?_); (case side1 => repeat (first | (with_reducible first | exact HI409.out | apply IsS62.alloc | apply IsS62.drewN | apply IsS62.drew | apply IsS62.set_1 | apply IsS62.set_2 | refine IsS62.far ?_ NB409_404.out _ | refine IsS62.far ?_ NB409_405.out _) | exact HI409.out)); (case side2 => repeat (first | (with_reducible first | exact HB.out | apply below_alloc | apply pw_below_drewN | apply below_drew1 | refine below_set ?_ (IsS62.ge HI409.out) | refine below_set ?_ GE404.out | refine below_set ?_ GE405.out) | exact HB.out)); rintro e w9 ⟨v412, rfl, ho0, hi, hb, hk⟩; refine ⟨_, rfl, ?_⟩; have n_ := an (KeepBut.blk hk (blk_nw BK404.out) NB404_409.out (by simp)) (an (KeepBut.blk hk (blk_nw BK405.out) NB405_409.out (by simp)) (an (Kd.Q_lower ho0 (below_size (by repeat (first | (with_reducible first | exact HB.out | apply below_alloc | apply pw_below_drewN | apply below_drew1 | refine below_set ?_ (IsS62.ge HI409.out) | refine below_set ?_ GE404.out | refine below_set ?_ GE405.out) | exact HB.out)))) (an (hb) (an (hi) (trivial))))); clear BK404 BK405 HB HI409; obtain ⟨BK404, BK405, HO413, HB, HI409, -⟩ := n_; (try clear hb); (try clear hb2); (try clear hk); (try clear hi); (try clear ho0)) | ((with_reducible refine gate_dst (N := 5) rfl ?_); refine box_event ?hg (N := 5) ?hd (cs := #[.int .i64 0, .slice none 0 0]) (t := 28) ?hr ?_; (case hd => rfl); (case hg => rfl); (case hr => first | (go_simp; done) | (go_simp; rfl)); intro gb416 hg w10 hbox hb; have n_ := an (Kd.Q_below (by exact Kd.Q_nw HO413.out) hb) (an (blk_below (blk_nw BK404.out) hb) (an (blk_below (blk_nw BK405.out) hb) (an (IsS62.below (by repeat (first | (with_reducible first | exact HI409.out | apply IsS62.alloc | apply IsS62.drewN | apply IsS62.drew | apply IsS62.set_1 | apply IsS62.set_2 | refine IsS62.far ?_ NB409_404.out _ | refine IsS62.far ?_ NB409_405.out _) | exact HI409.out)) hb) (an (below_step (by repeat (first | (with_reducible first | exact HB.out | apply below_alloc | apply pw_below_drewN | apply below_drew1 | refine below_set ?_ (IsS62.ge HI409.out) | refine below_set ?_ GE404.out | refine below_set ?_ GE405.out) | exact HB.out)) hb) (an (hbox) (an ((by rw [hg]; exact (below_size (by repeat (first | (with_reducible first | exact HB.out | apply below_alloc | apply pw_below_drewN | apply below_drew1 | refine below_set ?_ (IsS62.ge HI409.out) | refine below_set ?_ GE404.out | refine below_set ?_ GE405.out) | exact HB.out))) : w.heap.size ≤ gb416)) (an ((by rw [hg]; exact (below_size (by repeat (first | (with_reducible first | exact HB.out | apply below_alloc | apply pw_below_drewN | apply below_drew1 | refine below_set ?_ (IsS62.ge HI409.out) | refine below_set ?_ GE404.out | refine below_set ?_ GE405.out) | exact HB.out))) : w.heap.size ≤ gb416)) (an ((by rw [hg]; exact Nat.ne_of_lt (blk_lt (blk_nw BK404.out)) : gb404 ≠ gb416)) (an ((by rw [hg]; exact Nat.ne_of_gt (blk_lt (blk_nw BK404.out)) : gb416 ≠ gb404)) (an ((by rw [hg]; exact Nat.ne_of_lt (blk_lt (blk_nw BK405.out)) : gb405 ≠ gb416)) (an ((by rw [hg]; exact Nat.ne_of_gt (blk_lt (blk_nw BK405.out)) : gb416 ≠ gb405)) (an ((by rw [hg]; exact Nat.ne_of_lt (IsS62.lt (show IsS62 w _ g409 t406 t414 t415 from by repeat (first | (with_reducible first | exact HI409.out | apply IsS62.alloc | apply IsS62.drewN | apply IsS62.drew | apply IsS62.set_1 | apply IsS62.set_2 | refine IsS62.far ?_ NB409_404.out _ | refine IsS62.far ?_ NB409_405.out _) | exact HI409.out))) : g409 ≠ gb416)) (an ((by rw [hg]; exact Nat.ne_of_gt (IsS62.lt (show IsS62 w _ g409 t406 t414 t415 from by repeat (first | (with_reducible first | exact HI409.out | apply IsS62.alloc | apply IsS62.drewN | apply IsS62.drew | apply IsS62.set_1 | apply IsS62.set_2 | refine IsS62.far ?_ NB409_404.out _ | refine IsS62.far ?_ NB409_405.out _) | exact HI409.out))) : gb416 ≠ g409)) (trivial)))))))))))))); clear HO413 BK404 BK405 HI409 HB; obtain ⟨HO413, BK404, BK405, HI409, HB, BK416, GW416, GE416, NB404_416, NB416_404, NB405_416, NB416_405, NB409_416, NB416_409, -⟩ := n_; clear hb hbox hg; have hnb11 := NB416_404.out; have hnc11 := NB404_416.out; have hnb12 := NB416_405.out; have hnc12 := NB405_416.out; have hnb13 := NB416_409.out; have hnc13 := NB409_416.out; obtain ⟨hcz14_0, hcz14_1⟩ := blkz2 BK416.out; have hfz14_0 := blkf BK416.out; obtain ⟨Ao15, co15, eo15, _⟩ := Kd.Q_slice HO413.out; subst eo15))
 have n0_ : Aside0 (Kd.Q k40 40 ((w10.setCell ⟨gb416, 0, none⟩ (.int .i64 t410)).setCell ⟨gb416, 1, none⟩ (.slice Ao15 t411.length co15)) w.heap.size (fun _ => True) (.slice Ao15 t411.length co15) t411) := ⟨by exact (Kd.Q_farN HO413.out BK416.out)⟩
 have n1_ : Aside0 (((w10.setCell ⟨gb416, 0, none⟩ (.int .i64 t410)).setCell ⟨gb416, 1, none⟩ (.slice Ao15 t411.length co15)).heap[gb404]? = some (.cells #[.slice none 0 0, .int .i64 0, .int .i64 0, .int .i64 0, .int .i64 0, .int .i64 0] 25 (0, 0))) := ⟨by exact blk_kb BK404.out NB404_416.out⟩
 have n2_ : Aside0 (((w10.setCell ⟨gb416, 0, none⟩ (.int .i64 t410)).setCell ⟨gb416, 1, none⟩ (.slice Ao15 t411.length co15)).heap[gb405]? = some (.cells #[.int .i64 0, .slice none 0 0] 28 (0, 0))) := ⟨by exact blk_kb BK405.out NB405_416.out⟩
 have n3_ : Aside0 (((w10.setCell ⟨gb416, 0, none⟩ (.int .i64 t410)).setCell ⟨gb416, 1, none⟩ (.slice Ao15 t411.length co15)).heap[gb416]? = some (.cells #[.int .i64 t410, .slice Ao15 t411.length co15] 28 (0, 0))) := ⟨by (with_reducible repeat (first | refine blk_drewN ?_ _ | refine blk_drew ?_ | refine blk_alloc ?_ _)); exact blk_fill2 BK416.out⟩
 have n4_ : Aside0 (IsS62 w ((w10.setCell ⟨gb416, 0, none⟩ (.int .i64 t410)).setCell ⟨gb416, 1, none⟩ (.slice Ao15 t411.length co15)) g409 t406 t414 t415) := ⟨by repeat (first | (with_reducible first | exact HI409.out | apply IsS62.alloc | apply IsS62.drewN | apply IsS62.drew | apply IsS62.set_1 | apply IsS62.set_2 | refine IsS62.far ?_ NB409_404.out _ | refine IsS62.far ?_ NB409_405.out _ | refine IsS62.far ?_ NB409_416.out _) | exact HI409.out)⟩
 have n5_ : Aside0 (Below w.heap.size w ((w10.setCell ⟨gb416, 0, none⟩ (.int .i64 t410)).setCell ⟨gb416, 1, none⟩ (.slice Ao15 t411.length co15))) := ⟨by repeat (first | (with_reducible first | exact HB.out | apply below_alloc | apply pw_below_drewN | apply below_drew1 | refine below_set ?_ (IsS62.ge HI409.out) | refine below_set ?_ GE404.out | refine below_set ?_ GE405.out | refine below_set ?_ GE416.out) | exact HB.out)⟩
 (try clear HO413); (try clear BK404); (try clear BK405); (try clear BK416); (try clear HI409); (try clear HB)
 generalize ((w10.setCell ⟨gb416, 0, none⟩ (.int .i64 t410)).setCell ⟨gb416, 1, none⟩ (.slice Ao15 t411.length co15)) = w16 at n0_ n1_ n2_ n3_ n4_ n5_ ⊢
 have HO413 := n0_
 have BK404 := n1_
 have BK405 := n2_
 have BK416 := n3_
 have HI409 := n4_
 have HB := n5_
 clear n0_ n1_ n2_ n3_ n4_ n5_
 have n_ := an (Kd.Q_drew HO413.out) (an (blk_drew BK404.out) (an (blk_drew BK405.out) (an (blk_drew BK416.out) (an (IsS62.drew HI409.out) (an (below_drew1 HB.out) (trivial))))))
 clear HO413 BK404 BK405 BK416 HI409 HB
 obtain ⟨HO413, BK404, BK405, BK416, HI409, HB, -⟩ := n_
 refine start_ (n := 8) (S := fun w' => w'.cell? ⟨gb416, 0, none⟩ = some (.int .i64 t410) ∧ w'.cell? ⟨gb416, 1, none⟩ = some (.slice Ao15 t411.length co15)) (ds := []) #[false, false, false, false, false, false, false, false] (by kernel_rfl) rfl rfl ⟨(blk_cell BK416.out 0).trans rfl, (blk_cell BK416.out 1).trans rfl⟩ (fun hHeld => ?_); refine with_tabW spec_DrawNextProbe.tab3 spec_DrawNextProbe.bits3 (fun HT_ HW_ => ?_)
 generalize w16.drew = w17 at HO413 BK404 BK405 BK416 HI409 HB hHeld ⊢
 refine pure_ (i := 0) (N := some 10) (v := ?_) (a' := ?_) #[true, false, false, false, false, false, false, false] rfl rfl (any_of HT_.out (by kernel_rfl)) (fun _ _ _ h => h) (Or.inl ⟨by rfl, ?_⟩) ?_ ?_
 rotate_left
 ·intro w'
  go_simp
  with_reducible rfl
 rotate_left
 ·simp only [Act.put, List.setIfInBounds_toArray, List.set_cons_zero, List.set_cons_succ, i64_w, i32_w]
  rfl
 refine pure_ (i := 1) (N := some 11) (v := ?_) (a' := ?_) #[true, true, false, false, false, false, false, false] rfl rfl (any_of HT_.out (by kernel_rfl)) (fun _ _ _ h => h) (Or.inl ⟨by rfl, ?_⟩) ?_ ?_
 rotate_left
 ·intro w'
  go_simp
  with_reducible rfl
 rotate_left
 ·simp only [Act.put, List.setIfInBounds_toArray, List.set_cons_zero, List.set_cons_succ, i64_w, i32_w]
  rfl
 refine take_ (i := 2) (N := some 12) (v := ?_) (a' := ?_) #[true, true, true, false, false, false, false, false] rfl rfl (take_ofW HT_.out HW_.out (by kernel_rfl)) (fun _ _ _ h => h) (Or.inl ⟨by rfl, ?_⟩) hHeld ?_ ?_
 rotate_left
 ·rintro w' ⟨s0, s1⟩
  go_simp
  with_reducible rfl
 rotate_left
 ·simp only [Act.put, List.setIfInBounds_toArray, List.set_cons_zero, List.set_cons_succ, i64_w, i32_w]
  rfl
 refine take_ (i := 5) (N := some 15) (v := ?_) (a' := ?_) #[true, true, true, false, false, true, false, false] rfl rfl (take_ofW HT_.out HW_.out (by kernel_rfl)) (fun _ _ _ h => h) (Or.inl ⟨by rfl, ?_⟩) hHeld ?_ ?_
 rotate_left
 ·rintro w' ⟨s0, s1⟩
  go_simp
  with_reducible rfl
 rotate_left
 ·simp only [Act.put, List.setIfInBounds_toArray, List.set_cons_zero, List.set_cons_succ, i64_w, i32_w]
  rfl
 refine one_ (i := 3) (N := some 13) #[true, true, true, true, false, true, false, false] rfl rfl (one_of HT_.out (by kernel_rfl)) (by decide) (fun K hK => ?_)
 refine goes_ Try.func21 (by kernel_rfl) rfl #[.pointer (some ⟨g409, 0, none⟩), .agg #[.int .i64 t410, .slice Ao15 t411.length co15]] (by rfl) rfl rfl (by (try simp only [List.map_toArray, List.map_cons, List.map_nil]); first | done | rfl | (simp only [List.length_drop, List.length_take]; rfl)) ?_
 with_reducible refine (spec_l11draw.calls k g409 t406 t414 t415 t410 _ _ t411 t417 t420 t421 t422 t423 t424 t425 t426 w _ ?side1 ?side2 ?side3 ?side4 A4.out).mono ?_
 (case side1 => repeat (first | (with_reducible first | exact HI409.out | apply IsS62.alloc | apply IsS62.drewN | apply IsS62.drew | apply IsS62.set_1 | apply IsS62.set_2 | refine IsS62.far ?_ NB409_404.out _ | refine IsS62.far ?_ NB409_405.out _ | refine IsS62.far ?_ NB409_416.out _) | exact HI409.out))
 (case side2 => repeat (first | (with_reducible first | exact HB.out | apply below_alloc | apply pw_below_drewN | apply below_drew1 | refine below_set ?_ (IsS62.ge HI409.out) | refine below_set ?_ GE404.out | refine below_set ?_ GE405.out | refine below_set ?_ GE416.out) | exact HB.out))
 (case side3 => exact Kd.C_foot_ownQ (IsS62.apartQ (show IsS62 w _ g409 t406 t414 t415 from by repeat (first | (with_reducible first | exact HI409.out | apply IsS62.alloc | apply IsS62.drewN | apply IsS62.drew | apply IsS62.set_1 | apply IsS62.set_2 | refine IsS62.far ?_ NB409_404.out _ | refine IsS62.far ?_ NB409_405.out _ | refine IsS62.far ?_ NB409_416.out _) | exact HI409.out)) (by exact Kd.Q_nw HO413.out) (by decide)) (fun _ h_ => h_.2))
 (case side4 => exact (Kd.Q_reads' HO413.out).2.1)
 rintro e w18 ⟨v418, rfl, ho0, hi, hb, hk⟩
 refine ⟨_, rfl, ?_⟩
 have n_ := an (KeepBut.blk hk (blk_nw BK404.out) NB404_409.out (by simp)) (an (KeepBut.blk hk (blk_nw BK405.out) NB405_409.out (by simp)) (an (Kd.Q_mono (Kd.Q_keep (IsS62.apartQ (show IsS62 w _ g409 t406 t414 t415 from by repeat (first | (with_reducible first | exact HI409.out | apply IsS62.alloc | apply IsS62.drewN | apply IsS62.drew | apply IsS62.set_1 | apply IsS62.set_2 | refine IsS62.far ?_ NB409_404.out _ | refine IsS62.far ?_ NB409_405.out _ | refine IsS62.far ?_ NB409_416.out _) | exact HI409.out)) (by exact Kd.Q_nw HO413.out) (by decide)) hk (fun _ h => h.2)) (fun _ h => h.1)) (an (KeepBut.blk hk (blk_nw BK416.out) NB416_409.out (by simp)) (an (Kd.R_lower ho0 (below_size (by repeat (first | (with_reducible first | exact HB.out | apply below_alloc | apply pw_below_drewN | apply below_drew1 | refine below_set ?_ (IsS62.ge HI409.out) | refine below_set ?_ GE404.out | refine below_set ?_ GE405.out | refine below_set ?_ GE416.out) | exact HB.out)))) (an (hb) (an (hi) (trivial)))))))
 clear BK404 BK405 HO413 BK416 HB HI409
 obtain ⟨BK404, BK405, HO413, BK416, HO419, HB, HI409, -⟩ := n_
 (try clear hb); (try clear hb2); (try clear hk); (try clear hi); (try clear ho0)
 obtain ⟨Ao19, co19, eo19⟩ := Kd.R_slice HO419.out
 (first | subst eo19 | (injection eo19 with f1_ f2_ f3_; have f4_ := f1_.symm; have f5_ := f3_.symm; clear f1_ f2_ f3_; subst f4_; subst f5_))
 refine hK.out _ _ ⟨(blk_cell BK416.out 0).trans rfl, (blk_cell BK416.out 1).trans rfl⟩ (fun hHeld => ?_)
 clear hK K
 refine norm_ (a' := ?_) ?_ ?_
 rotate_left
 ·show Act.put _ (some 13) _ = _
  simp only [Act.put, List.setIfInBounds_toArray, List.set_cons_zero, List.set_cons_succ, i64_w, i32_w]
  rfl
 refine one_ (i := 4) (N := some 14) #[true, true, true, true, true, true, false, false] rfl rfl (one_of HT_.out (by kernel_rfl)) (by decide) (fun K hK => ?_)
 refine goes_ Try.func20 (by kernel_rfl) rfl #[.pointer (some ⟨g409, 0, none⟩), .agg #[.slice Ao19 t417.length co19, .int .i64 t420, .int .i64 t421, .int .i64 t422, .int .i64 t423, .int .i64 t424]] (by rfl) rfl rfl (by (try simp only [List.map_toArray, List.map_cons, List.map_nil]); first | done | rfl | (simp only [List.length_drop, List.length_take]; rfl)) ?_
 with_reducible refine (spec_l11bent.calls g409 t406 t425 t426 (fun k_ => some k_ = (.slice Ao19 t417.length co19 : Value).ownBlock) (.slice Ao19 t417.length co19) t417 t420 t421 t422 t423 t424 t427 t430 t431 t432 t433 t434 t435 t436 w _ ?side1 ?side2 ?side3 A5.out).mono ?_
 (case side1 => repeat (first | (with_reducible first | exact HI409.out | apply IsS62.alloc | apply IsS62.drewN | apply IsS62.drew | apply IsS62.set_1 | apply IsS62.set_2 | refine IsS62.far ?_ NB409_404.out _ | refine IsS62.far ?_ NB409_405.out _ | refine IsS62.far ?_ NB409_416.out _) | exact HI409.out))
 (case side2 => repeat (first | (with_reducible first | exact HB.out | apply below_alloc | apply pw_below_drewN | apply below_drew1 | refine below_set ?_ (IsS62.ge HI409.out) | refine below_set ?_ GE404.out | refine below_set ?_ GE405.out | refine below_set ?_ GE416.out) | exact HB.out))
 (case side3 => exact Kd.R_tight rfl HO419.out)
 rintro e w20 ⟨v428, rfl, ho0, hi, hb, hkp⟩
 refine ⟨_, rfl, ?_⟩
 have n_ := an (blk_kept (by exact blk_nw BK404.out) hkp (fun hs_ => Or.elim hs_ (fun hs_ => (fun e_ => (Kd.R_ne HO419.out BK404.out (by decide)) e_) hs_) (fun e_ => NB404_409.out e_))) (an (blk_kept (by exact blk_nw BK405.out) hkp (fun hs_ => Or.elim hs_ (fun hs_ => (fun e_ => (Kd.R_ne HO419.out BK405.out (by decide)) e_) hs_) (fun e_ => NB405_409.out e_))) (an (hi) (an (Kd.Q_mono (ok' := fun k_ => True) (Kd.Q_keptB ((IsS62.apartQ HI409.out (Kd.Q_apart' HO413.out (Kd.R_typed HO419.out) (by decide)) (by decide))) hkp (fun k_ hk_ hs_ => Or.elim hs_ (fun hs_ => (hk_.1.2) hs_) (fun e_ => (hk_.2) e_))) (fun k_ hk_ => trivial)) (an (blk_kept (by exact blk_nw BK416.out) hkp (fun hs_ => Or.elim hs_ (fun hs_ => (fun e_ => (Kd.R_ne HO419.out BK416.out (by decide)) e_) hs_) (fun e_ => NB416_409.out e_))) (an (Kd.R_mono (ok' := fun k_ => True) ho0 (fun k_ hk_ => trivial)) (an (hb) (trivial)))))))
 clear BK404 BK405 HI409 HO413 BK416 HB HO419
 obtain ⟨BK404, BK405, HI409, HO413, BK416, HO429, HB, -⟩ := n_
 (try clear hb); (try clear hkp); (try clear ho0)
 obtain ⟨Ao21, co21, eo21⟩ := Kd.R_slice HO429.out
 (first | subst eo21 | (injection eo21 with f1_ f2_ f3_; have f4_ := f1_.symm; have f5_ := f3_.symm; clear f1_ f2_ f3_; subst f4_; subst f5_))
 refine hK.out _ _ ⟨(blk_cell BK416.out 0).trans rfl, (blk_cell BK416.out 1).trans rfl⟩ (fun hHeld => ?_)
 clear hK K
 refine norm_ (a' := ?_) ?_ ?_
 rotate_left
 ·show Act.put _ (some 14) _ = _
  simp only [Act.put, List.setIfInBounds_toArray, List.set_cons_zero, List.set_cons_succ, i64_w, i32_w]
  rfl
 refine one_ (i := 6) (N := none) #[true, true, true, true, true, true, true, false] rfl rfl (one_of HT_.out (by kernel_rfl)) (by decide) (fun K hK => ?_)
 have hs22 : w20.cell? ⟨gb404, 0, none⟩ = some (.slice none 0 0) := (blk_cell BK404.out 0).trans rfl
 have hfs22 := blk_frozen BK404.out 0
 have hns22_1 := NB405_404.out; have hns22_2 := NB416_404.out; have hms22_1 := NB404_405.out; have hms22_2 := NB404_416.out
 have hs23 : w20.cell? ⟨gb404, 1, none⟩ = some (.int .i64 0) := (blk_cell BK404.out 1).trans rfl
 have hfs23 := blk_frozen BK404.out 1
 have hns23_1 := NB405_404.out; have hns23_2 := NB416_404.out; have hms23_1 := NB404_405.out; have hms23_2 := NB404_416.out
 have hs24 : w20.cell? ⟨gb404, 2, none⟩ = some (.int .i64 0) := (blk_cell BK404.out 2).trans rfl
 have hfs24 := blk_frozen BK404.out 2
 have hns24_1 := NB405_404.out; have hns24_2 := NB416_404.out; have hms24_1 := NB404_405.out; have hms24_2 := NB404_416.out
 have hs25 : w20.cell? ⟨gb404, 3, none⟩ = some (.int .i64 0) := (blk_cell BK404.out 3).trans rfl
 have hfs25 := blk_frozen BK404.out 3
 have hns25_1 := NB405_404.out; have hns25_2 := NB416_404.out; have hms25_1 := NB404_405.out; have hms25_2 := NB404_416.out
 have hs26 : w20.cell? ⟨gb404, 4, none⟩ = some (.int .i64 0) := (blk_cell BK404.out 4).trans rfl
 have hfs26 := blk_frozen BK404.out 4
 have hns26_1 := NB405_404.out; have hns26_2 := NB416_404.out; have hms26_1 := NB404_405.out; have hms26_2 := NB404_416.out
 have hs27 : w20.cell? ⟨gb404, 5, none⟩ = some (.int .i64 0) := (blk_cell BK404.out 5).trans rfl
 have hfs27 := blk_frozen BK404.out 5
 have hns27_1 := NB405_404.out; have hns27_2 := NB416_404.out; have hms27_1 := NB404_405.out; have hms27_2 := NB404_416.out
 refine skip_ (w1 := ?_) (by rfl) rfl ?_ ?_
 rotate_left
 ·go_simp
  rfl
 refine hK.out _ _ ⟨((cell_far (p := ⟨gb404, _, none⟩) NB416_404.out _).trans (((cell_far (p := ⟨gb404, _, none⟩) NB416_404.out _).trans (((cell_far (p := ⟨gb404, _, none⟩) NB416_404.out _).trans (((cell_far (p := ⟨gb404, _, none⟩) NB416_404.out _).trans (((cell_far (p := ⟨gb404, _, none⟩) NB416_404.out _).trans (((cell_far (p := ⟨gb404, _, none⟩) NB416_404.out _).trans (hHeld.1)))))))))))), ((cell_far (p := ⟨gb404, _, none⟩) NB416_404.out _).trans (((cell_far (p := ⟨gb404, _, none⟩) NB416_404.out _).trans (((cell_far (p := ⟨gb404, _, none⟩) NB416_404.out _).trans (((cell_far (p := ⟨gb404, _, none⟩) NB416_404.out _).trans (((cell_far (p := ⟨gb404, _, none⟩) NB416_404.out _).trans (((cell_far (p := ⟨gb404, _, none⟩) NB416_404.out _).trans (hHeld.2))))))))))))⟩ (fun hHeld => ?_)
 clear hK K
 refine one_ (i := 7) (N := none) #[true, true, true, true, true, true, true, true] rfl rfl (one_of HT_.out (by kernel_rfl)) (by decide) (fun K hK => ?_)
 have hs28 : w20.cell? ⟨gb405, 0, none⟩ = some (.int .i64 0) := (blk_cell BK405.out 0).trans rfl
 have hfs28 := blk_frozen BK405.out 0
 have hns28_0 := NB404_405.out; have hns28_2 := NB416_405.out; have hms28_0 := NB405_404.out; have hms28_2 := NB405_416.out
 have hs29 : w20.cell? ⟨gb405, 1, none⟩ = some (.slice none 0 0) := (blk_cell BK405.out 1).trans rfl
 have hfs29 := blk_frozen BK405.out 1
 have hns29_0 := NB404_405.out; have hns29_2 := NB416_405.out; have hms29_0 := NB405_404.out; have hms29_2 := NB405_416.out
 refine skip_ (w1 := ?_) (by rfl) rfl ?_ ?_
 rotate_left
 ·go_simp
  rfl
 refine hK.out _ _ ⟨((cell_far (p := ⟨gb405, _, none⟩) NB416_405.out _).trans (((cell_far (p := ⟨gb405, _, none⟩) NB416_405.out _).trans (hHeld.1)))), ((cell_far (p := ⟨gb405, _, none⟩) NB416_405.out _).trans (((cell_far (p := ⟨gb405, _, none⟩) NB416_405.out _).trans (hHeld.2))))⟩ (fun hHeld => ?_)
 clear hK K
 refine done_ (done_of HT_.out (by kernel_rfl)) ?_
 try go_wp2
 refine bodyPost_ret (results_cc rfl _ _ gb404 gb405 25 28 #[.slice Ao21 t427.length co21, .int .i64 t430, .int .i64 t431, .int .i64 t432, .int .i64 t433, .int .i64 t434] #[.int .i64 t410, .slice Ao15 t411.length co15] (0, 0) (0, 0) _ _ rfl (by (with_reducible repeat (first | refine blk_drewN ?_ _ | refine blk_drew ?_ | refine blk_alloc ?_ _)); refine blk_far ?_ NB404_405.out _; (with_reducible repeat (first | refine blk_drewN ?_ _ | refine blk_drew ?_ | refine blk_alloc ?_ _)); refine blk_far ?_ NB404_405.out _; (with_reducible repeat (first | refine blk_drewN ?_ _ | refine blk_drew ?_ | refine blk_alloc ?_ _)); refine blk_put (cs := #[.slice Ao21 t427.length co21, .int .i64 t430, .int .i64 t431, .int .i64 t432, .int .i64 t433, .int .i64 0]) ?_ 5 _ rfl; (with_reducible repeat (first | refine blk_drewN ?_ _ | refine blk_drew ?_ | refine blk_alloc ?_ _)); refine blk_put (cs := #[.slice Ao21 t427.length co21, .int .i64 t430, .int .i64 t431, .int .i64 t432, .int .i64 0, .int .i64 0]) ?_ 4 _ rfl; (with_reducible repeat (first | refine blk_drewN ?_ _ | refine blk_drew ?_ | refine blk_alloc ?_ _)); refine blk_put (cs := #[.slice Ao21 t427.length co21, .int .i64 t430, .int .i64 t431, .int .i64 0, .int .i64 0, .int .i64 0]) ?_ 3 _ rfl; (with_reducible repeat (first | refine blk_drewN ?_ _ | refine blk_drew ?_ | refine blk_alloc ?_ _)); refine blk_put (cs := #[.slice Ao21 t427.length co21, .int .i64 t430, .int .i64 0, .int .i64 0, .int .i64 0, .int .i64 0]) ?_ 2 _ rfl; (with_reducible repeat (first | refine blk_drewN ?_ _ | refine blk_drew ?_ | refine blk_alloc ?_ _)); refine blk_put (cs := #[.slice Ao21 t427.length co21, .int .i64 0, .int .i64 0, .int .i64 0, .int .i64 0, .int .i64 0]) ?_ 1 _ rfl; (with_reducible repeat (first | refine blk_drewN ?_ _ | refine blk_drew ?_ | refine blk_alloc ?_ _)); refine blk_put (cs := #[.slice none 0 0, .int .i64 0, .int .i64 0, .int .i64 0, .int .i64 0, .int .i64 0]) ?_ 0 _ rfl; (with_reducible repeat (first | refine blk_drewN ?_ _ | refine blk_drew ?_ | refine blk_alloc ?_ _)); exact BK404.out) Try.underlying25 rfl (by kernel_rfl) rfl (by (with_reducible repeat (first | refine blk_drewN ?_ _ | refine blk_drew ?_ | refine blk_alloc ?_ _)); refine blk_put (cs := #[.int .i64 t410, .slice none 0 0]) ?_ 1 _ rfl; (with_reducible repeat (first | refine blk_drewN ?_ _ | refine blk_drew ?_ | refine blk_alloc ?_ _)); refine blk_put (cs := #[.int .i64 0, .slice none 0 0]) ?_ 0 _ rfl; (with_reducible repeat (first | refine blk_drewN ?_ _ | refine blk_drew ?_ | refine blk_alloc ?_ _)); refine blk_far ?_ NB405_404.out _; (with_reducible repeat (first | refine blk_drewN ?_ _ | refine blk_drew ?_ | refine blk_alloc ?_ _)); refine blk_far ?_ NB405_404.out _; (with_reducible repeat (first | refine blk_drewN ?_ _ | refine blk_drew ?_ | refine blk_alloc ?_ _)); refine blk_far ?_ NB405_404.out _; (with_reducible repeat (first | refine blk_drewN ?_ _ | refine blk_drew ?_ | refine blk_alloc ?_ _)); refine blk_far ?_ NB405_404.out _; (with_reducible repeat (first | refine blk_drewN ?_ _ | refine blk_drew ?_ | refine blk_alloc ?_ _)); refine blk_far ?_ NB405_404.out _; (with_reducible repeat (first | refine blk_drewN ?_ _ | refine blk_drew ?_ | refine blk_alloc ?_ _)); refine blk_far ?_ NB405_404.out _; (with_reducible repeat (first | refine blk_drewN ?_ _ | refine blk_drew ?_ | refine blk_alloc ?_ _)); exact BK405.out) Try.underlying28 rfl (by kernel_rfl)) rfl ?_
 exact ⟨_, _, by first | rfl | (simp [errW_none, errW_some] <;> rfl) | (simp [*, errW_none, errW_some] <;> rfl), by (with_reducible repeat (first | apply Kd.R_alloc | apply Kd.R_drewN | apply Kd.R_drew)); exact Kd.R_mono (Kd.R_far (p := ⟨gb405, 1, none⟩) (Kd.R_far (p := ⟨gb405, 0, none⟩) (Kd.R_far (p := ⟨gb404, 5, none⟩) (Kd.R_far (p := ⟨gb404, 4, none⟩) (Kd.R_far (p := ⟨gb404, 3, none⟩) (Kd.R_far (p := ⟨gb404, 2, none⟩) (Kd.R_far (p := ⟨gb404, 1, none⟩) (Kd.R_far (p := ⟨gb404, 0, none⟩) (Kd.R_types (Kd.R_types HO429.out BK404.out (by decide)) BK405.out (by decide)) (fun _ hk => hk.1.2) (.slice Ao21 t427.length co21)) (fun _ hk => hk.1.2) (.int .i64 t430)) (fun _ hk => hk.1.2) (.int .i64 t431)) (fun _ hk => hk.1.2) (.int .i64 t432)) (fun _ hk => hk.1.2) (.int .i64 t433)) (fun _ hk => hk.1.2) (.int .i64 t434)) (fun _ hk => hk.2) (.int .i64 t410)) (fun _ hk => hk.2) (.slice Ao15 t411.length co15)) (fun _ hk => trivial), by (with_reducible repeat (first | apply Kd.Q_alloc | apply Kd.Q_drewN | apply Kd.Q_drew)); exact Kd.Q_mono (Kd.Q_far (p := ⟨gb405, 1, none⟩) (Kd.Q_far (p := ⟨gb405, 0, none⟩) (Kd.Q_far (p := ⟨gb404, 5, none⟩) (Kd.Q_far (p := ⟨gb404, 4, none⟩) (Kd.Q_far (p := ⟨gb404, 3, none⟩) (Kd.Q_far (p := ⟨gb404, 2, none⟩) (Kd.Q_far (p := ⟨gb404, 1, none⟩) (Kd.Q_far (p := ⟨gb404, 0, none⟩) (Kd.Q_types (Kd.Q_types HO413.out BK404.out (by decide)) BK405.out (by decide)) (fun _ hk => hk.1.2) (.slice Ao21 t427.length co21)) (fun _ hk => hk.1.2) (.int .i64 t430)) (fun _ hk => hk.1.2) (.int .i64 t431)) (fun _ hk => hk.1.2) (.int .i64 t432)) (fun _ hk => hk.1.2) (.int .i64 t433)) (fun _ hk => hk.1.2) (.int .i64 t434)) (fun _ hk => hk.2) (.int .i64 t410)) (fun _ hk => hk.2) (.slice Ao15 t411.length co15)) (fun _ hk => trivial), by repeat (first | (with_reducible first | exact HB.out | apply below_alloc | apply pw_below_drewN | apply below_drew1 | refine below_set ?_ (IsS62.ge HI409.out) | refine below_set ?_ GE404.out | refine below_set ?_ GE405.out | refine below_set ?_ GE416.out) | exact HB.out)⟩

/-! ### impl_within: function 25 -/
def impl_within.f (a0 : Int) (a1 : Int) (a2 : Int) : Option (Bool) := if a1 ≤ a0 then (some (decide (a0 ≤ a2))) else (some false)
set_option maxHeartbeats 8000000 in
set_option maxRecDepth 100000 in
theorem impl_within.calls (a0 : Int) (a1 : Int) (a2 : Int) (r : Bool) (w : World) (h : impl_within.f a0 a1 a2 = some r) :
  Calls Try.prog 25 #[.int .i64 a0, .int .i64 a1, .int .i64 a2] w fun e w' => e = .returned (.bool r) ∧ Drawn0 w w' := by
 have H : (if a1 ≤ a0 then (some (decide (a0 ≤ a2))) else (some false)) = some r := h
 clear h
 by_cases c4 : a1 ≤ a0
 ·rw [if_pos c4] at H; have c4b0 : decide (a1 ≤ a0) = true := decide_eq_true c4; clear c4; (try simp only [c4b0])
  obtain rfl := Option.some.inj H
  go_enter Try.func25, Try.ntmps25
  go_wp2
  go_ret
  exact ⟨by first | rfl | (simp; done) | (simp [*]; done), by repeat (first | exact Drawn0.refl _ | apply Drawn0.step)⟩
 ·rw [if_neg c4] at H; have c4b0 : decide (a1 ≤ a0) = false := decide_eq_false c4; clear c4; (try simp only [c4b0])
  obtain rfl := Option.some.inj H
  go_enter Try.func25, Try.ntmps25
  go_wp2
  go_ret
  exact ⟨by first | rfl | (simp; done) | (simp [*]; done), by repeat (first | exact Drawn0.refl _ | apply Drawn0.step)⟩

/-! ### impl_isSeed: function 22 -/
def impl_isSeed.f (a0 : Int) : Option (Bool) := (impl_within.f a0 0 2147483647).bind fun t437 => (some t437)
set_option maxHeartbeats 8000000 in
set_option maxRecDepth 100000 in
theorem impl_isSeed.calls (a0 : Int) (r : Bool) (w : World) (h : impl_isSeed.f a0 = some r) :
  Calls Try.prog 22 #[.int .i64 a0] w fun e w' => e = .returned (.bool r) ∧ Drawn0 w w' := by
 have H : ((impl_within.f a0 0 2147483647).bind fun t437 => (some t437)) = some r := h
 clear h; replace H := Option.bind_eq_some_iff.mp H; obtain ⟨t437, A20, H⟩ := H; have A2 := Aside0.mk A20; clear A20
 obtain rfl := Option.some.inj H
 go_enter Try.func22, Try.ntmps22
 go_wp2_with (first | ((with_reducible refine gate_callee (f := 25) rfl ?_); refine goesL_ (some 4) rfl rfl Try.func25 (by kernel_rfl) rfl #[.int .i64 a0, .int .i64 0, .int .i64 2147483647] rfl (by (try simp only [List.map_toArray, List.map_cons, List.map_nil]); first | done | rfl | (simp only [List.length_drop, List.length_take]; rfl)) ?_; (with_reducible refine (impl_within.calls a0 0 2147483647 t437 _ A2.out).mono ?_); rintro e w' ⟨rfl, ⟨nd, rfl⟩⟩; refine ⟨_, rfl, ?_⟩))
 go_ret
 exact ⟨by first | rfl | (simp; done) | (simp [*]; done), by repeat (first | exact Drawn0.refl _ | apply Drawn0.step)⟩

/-! ### impl_ProberNew: function 6 -/
def impl_ProberNew.f (a0 : Int) : Option (List Int × Int × Int × Int × Int × Int × Bool) := (impl_isSeed.f a0).bind fun t439 => (if t439 = true then (some (([] : List Int), 0, a0, 0, 0, 0, true)) else (some (([] : List Int), 0, 0, 0, 0, 0, false)))
set_option maxHeartbeats 8000000 in
set_option maxRecDepth 100000 in
theorem impl_ProberNew.calls (a0 : Int) (r1 : List Int) (r2 : Int) (r3 : Int) (r4 : Int) (r5 : Int) (r6 : Int) (r7 : Bool) (w : World) (h : impl_ProberNew.f a0 = some (r1, r2, r3, r4, r5, r6, r7)) :
  Calls Try.prog 6 #[.int .i64 a0] w fun e w' => ∃ v0_ : Value, e = .returned (.tuple #[.agg #[v0_, .int .i64 r2, .int .i64 r3, .int .i64 r4, .int .i64 r5, .int .i64 r6], .bool r7]) ∧ Kd.R (Kd.int .i64) 3 w' w.heap.size (fun _ => True) v0_ r1 ∧ Below w.heap.size w w' := by
 have hu25 := Try.underlying25
 have HB := Aside0.mk (Below.refl w.heap.size w)
 have H : ((impl_isSeed.f a0).bind fun t439 => (if t439 = true then (some (([] : List Int), 0, a0, 0, 0, 0, true)) else (some (([] : List Int), 0, 0, 0, 0, 0, false)))) = some (r1, r2, r3, r4, r5, r6, r7) := h
 clear h; replace H := Option.bind_eq_some_iff.mp H; obtain ⟨t439, A20, H⟩ := H; have A2 := Aside0.mk A20; clear A20; go_enter Try.func6, Try.ntmps6
 replace H := Aside0.mk H
 go_wp2_with (first | ((with_reducible refine gate_dst (N := 2) rfl ?_); refine box_event ?hg (N := 2) ?hd (cs := #[.slice none 0 0, .int .i64 0, .int .i64 0, .int .i64 0, .int .i64 0, .int .i64 0]) (t := 25) ?hr ?_; (case hd => rfl); (case hg => rfl); (case hr => first | (go_simp; done) | (go_simp; rfl)); intro gb438 hg w3 hbox hb; have n_ := an (below_step (by exact bel0) hb) (an (hbox) (an ((by rw [hg]; exact (below_size (by exact bel0)) : w.heap.size ≤ gb438)) (an ((by rw [hg]; exact (below_size (by exact bel0)) : w.heap.size ≤ gb438)) (trivial)))); clear HB; obtain ⟨HB, BK438, GW438, GE438, -⟩ := n_; clear hb hbox hg) | ((with_reducible refine gate_callee (f := 22) rfl ?_); refine goesL_ (some 5) rfl rfl Try.func22 (by kernel_rfl) rfl #[.int .i64 a0] rfl (by (try simp only [List.map_toArray, List.map_cons, List.map_nil]); first | done | rfl | (simp only [List.length_drop, List.length_take]; rfl)) ?_; (with_reducible refine (impl_isSeed.calls a0 t439 _ A2.out).mono ?_); rintro e w' ⟨rfl, ⟨nd, rfl⟩⟩; refine ⟨_, rfl, ?_⟩; (try (rw [drewN_self w3]; generalize hq_ : World.drewN w3 _ = w3; have n0_ : Aside0 (w3.heap[gb438]? = some (.cells #[.slice none 0 0, .int .i64 0, .int .i64 0, .int .i64 0, .int .i64 0, .int .i64 0] 25 (0, 0))) := ⟨by rw [← hq_]; exact (by exact blk_nw BK438.out)⟩; have n1_ : Aside0 (Below w.heap.size w w3) := ⟨by rw [← hq_]; exact (by exact bel0)⟩; clear BK438 HB hq_; have BK438 := n0_; have HB := n1_; clear n0_ n1_)); refine Stop.out ?_))
 refine Stop.mk ?_
 replace H := H.out
 by_cases c4 : t439 = true
 ·subst c4; rw [if_pos rfl] at H; simp only [Option.some.injEq, Prod.mk.injEq] at H; obtain ⟨rfl, rfl, rfl, rfl, rfl, rfl, rfl⟩ := H; obtain ⟨hcz5_0, hcz5_1, hcz5_2, hcz5_3, hcz5_4, hcz5_5⟩ := blkz6 BK438.out; have hfz5_0 := blkf BK438.out
  go_wp2
  refine bodyPost_ret (results_ct rfl _ _ gb438 25 #[.slice none 0 0, .int .i64 0, .int .i64 a0, .int .i64 0, .int .i64 0, .int .i64 0] (0, 0) _ rfl (by (with_reducible repeat (first | refine blk_drewN ?_ _ | refine blk_drew ?_ | refine blk_alloc ?_ _)); exact blk_fill6 BK438.out) Try.underlying25 rfl (by kernel_rfl)) rfl ?_
  exact ⟨_, by first | rfl | (simp [errW_none, errW_some] <;> rfl) | (simp [*, errW_none, errW_some] <;> rfl), by first | exact Kd.R_nil _ _ _ _ _ | exact Kd.N_nil _ _ _ _ _ | exact Kd.V_nil _ _ _ _ _ | exact Kd.Q_nil _ _ _ _ _ | exact Kd.S_nil _ _ _ _ _, by exact bel0⟩
 ·replace c4 := Bool.eq_false_iff.mpr c4
  subst c4
  rw [if_neg (show ¬ (false = true) by decide)] at H
  simp only [Option.some.injEq, Prod.mk.injEq] at H; obtain ⟨rfl, rfl, rfl, rfl, rfl, rfl, rfl⟩ := H; obtain ⟨hcz6_0, hcz6_1, hcz6_2, hcz6_3, hcz6_4, hcz6_5⟩ := blkz6 BK438.out; have hfz6_0 := blkf BK438.out
  go_wp2
  refine bodyPost_ret (results_ct rfl _ _ gb438 25 #[.slice none 0 0, .int .i64 0, .int .i64 0, .int .i64 0, .int .i64 0, .int .i64 0] (0, 0) _ rfl (by (with_reducible repeat (first | refine blk_drewN ?_ _ | refine blk_drew ?_ | refine blk_alloc ?_ _)); exact blk_fill6 BK438.out) Try.underlying25 rfl (by kernel_rfl)) rfl ?_
  exact ⟨_, by first | rfl | (simp [errW_none, errW_some] <;> rfl) | (simp [*, errW_none, errW_some] <;> rfl), by first | exact Kd.R_nil _ _ _ _ _ | exact Kd.N_nil _ _ _ _ _ | exact Kd.V_nil _ _ _ _ _ | exact Kd.Q_nil _ _ _ _ _ | exact Kd.S_nil _ _ _ _ _, by exact bel0⟩

/-! ### laws_at: function 7 -/
def laws_at.f (l0 : List Int) (a1 : Int) : Option (Int) := if (l0.length : Int) = 0 then (some 0) else (if 0 ≤ (Int.tmod a1 (l0.length : Int)) then (if (Int.tmod a1 (l0.length : Int)) < (l0.length : Int) then (some (wrap64 (rd l0 (Int.tmod a1 (l0.length : Int))))) else (none)) else (none))
set_option maxHeartbeats 8000000 in
set_option maxRecDepth 100000 in
theorem laws_at.calls (A0 : Option Addr) (c0 : Nat) (l0 : List Int) (a1 : Int) (r : Int) (w : World) (hr0 : Kd.C (Kd.int .u8) w A0 l0.length l0) (hc0 : l0.length ≤ c0) (h : laws_at.f l0 a1 = some r) :
  Calls Try.prog 7 #[.slice A0 l0.length c0, .int .i64 a1] w fun e w' => e = .returned (.int .i64 r) ∧ Drawn0 w w' := by
 have HR0 := Aside0.mk hr0; have HC0 := Aside0.mk hc0; clear hr0 hc0
 have H : (if (l0.length : Int) = 0 then (some 0) else (if 0 ≤ (Int.tmod a1 (l0.length : Int)) then (if (Int.tmod a1 (l0.length : Int)) < (l0.length : Int) then (some (wrap64 (rd l0 (Int.tmod a1 (l0.length : Int))))) else (none)) else (none))) = some r := h
 clear h
 by_cases c3 : (l0.length : Int) = 0
 ·rw [if_pos c3] at H
  have c3b0 : ((l0.length : Int) == 0) = true := beq_iff_eq.mpr c3
  have c3b1 : ((l0.length : Int) != 0) = false := bne_eq_false_iff_eq.mpr c3
  clear c3
  obtain rfl := Option.some.inj H
  go_enter Try.func7, Try.ntmps7
  go_wp2
  go_ret
  exact ⟨by first | rfl | (simp; done) | (simp [*]; done), by repeat (first | exact Drawn0.refl _ | apply Drawn0.step)⟩
 ·rw [if_neg c3] at H
  have c3b0 : ((l0.length : Int) == 0) = false := beq_eq_false_iff_ne.mpr c3
  have c3b1 : ((l0.length : Int) != 0) = true := bne_iff_ne.mpr c3
  have c3b2 : ¬ (l0 = []) := fun h_ => c3 (by rw [h_]; rfl)
  obtain ⟨ji4, hji4⟩ : ∃ j_ : Int, (Int.tmod a1 (l0.length : Int)) = j_ := ⟨_, rfl⟩
  replace H : (if 0 ≤ (ji4) then (if (ji4) < (l0.length : Int) then (some (wrap64 (rd l0 (ji4)))) else (none)) else (none)) = some r := by first | (rw [hji4] at H; exact H) | (simp only [hji4] at H ⊢; exact H)
  by_cases c5 : 0 ≤ (ji4)
  ·rw [if_pos c5] at H; have c5b0 : decide (0 ≤ (ji4)) = true := decide_eq_true c5; clear c5; (try simp only [c5b0])
   by_cases c6 : (ji4) < (l0.length : Int)
   ·rw [if_pos c6] at H
    have c6b0 : decide ((ji4) < (l0.length : Int)) = true := decide_eq_true c6
    clear c6; (try simp only [c6b0])
    obtain rfl := Option.some.inj H
    have p440 : 0 ≤ ((ji4) : Int) := of_decide_eq_true (by first | (with_reducible assumption) | assumption)
    have q440 : (ji4) < (l0.length : Int) := of_decide_eq_true (by first | (with_reducible assumption) | assumption)
    obtain ⟨ad440, e440, hx440_0⟩ := Kd.at_int HR0.out (ji4) p440 q440
    cases e440
    replace p440 := eq_true p440
    replace q440 := eq_true q440
    go_enter Try.func7, Try.ntmps7
    go_wp2
    go_ret
    exact ⟨by first | rfl | (simp; done) | (simp only [← hji4] <;> (first | rfl | simp)) | (simp [*]; done), by repeat (first | exact Drawn0.refl _ | apply Drawn0.step)⟩
   ·rw [if_neg c6] at H
    exact absurd H (by simp)
  ·rw [if_neg c5] at H
   exact absurd H (by simp)

/-! ### slices_Index_int_int: function 38 -/
def slices_Index_int_int.l0 : Nat → List Int → Int → Int → Int → Option (Int)
  | 0, _, _, _, _ => none
  | k + 1, x0, x1, x7, x8 => if x8 < x7 then (if 0 ≤ x8 then (if x8 < (x0.length : Int) then (if x1 = (rd x0 x8) then (some x8) else (slices_Index_int_int.l0 k x0 x1 x7 (wrap64 (x8 + 1)))) else (none)) else (none)) else (some (-1))
def slices_Index_int_int.f (k : Nat) (l0 : List Int) (a1 : Int) : Option (Int) := slices_Index_int_int.l0 k l0 a1 (l0.length : Int) 0
theorem slices_Index_int_int.mono_l : ∀ k, (∀ y0 y1 y2 y3, LeO (slices_Index_int_int.l0 k y0 y1 y2 y3) (slices_Index_int_int.l0 (k + 1) y0 y1 y2 y3))
 | 0 => fun _ _ _ _ r h => by simp [slices_Index_int_int.l0] at h
 | k + 1 => by
  have ih0 := slices_Index_int_int.mono_l k
  ·intro y0 y1 y2 y3
   unfold slices_Index_int_int.l0
   repeat' first
   | (with_reducible exact ih0 _ _ _ _)
   | (with_reducible exact LeO.refl _)
   | (with_reducible exact LeO.none _)
   | (with_reducible refine LeO.ite ?_ ?_)
   | (with_reducible refine LeO.bind ?_ (fun _ => ?_))
   | exact ih0 _ _ _ _
   | exact LeO.none _
   | refine LeO.ite ?_ ?_
   | refine LeO.bind ?_ (fun _ => ?_)
theorem slices_Index_int_int.mono : ∀ a0 a1 k, LeO (slices_Index_int_int.f k a0 a1) (slices_Index_int_int.f (k + 1) a0 a1) := by
 intro a0 a1 k
 have ih0 := slices_Index_int_int.mono_l k
 unfold slices_Index_int_int.f
 repeat' first
   | (with_reducible exact ih0 _ _ _ _)
   | (with_reducible exact LeO.refl _)
   | (with_reducible exact LeO.none _)
   | (with_reducible refine LeO.ite ?_ ?_)
   | (with_reducible refine LeO.bind ?_ (fun _ => ?_))
   | exact ih0 _ _ _ _
   | exact LeO.none _
   | refine LeO.ite ?_ ?_
   | refine LeO.bind ?_ (fun _ => ?_)
set_option maxHeartbeats 8000000 in
set_option maxRecDepth 100000 in
theorem slices_Index_int_int.calls (k : Nat) (A0 : Option Addr) (c0 : Nat) (l0 : List Int) (a1 : Int) (r : Int) (w : World) (hr0 : Kd.C (Kd.int .i64) w A0 l0.length l0) (hc0 : l0.length ≤ c0) (h : slices_Index_int_int.f k l0 a1 = some r) :
  Calls Try.prog 38 #[.slice A0 l0.length c0, .int .i64 a1] w fun e w' => e = .returned (.int .i64 r) ∧ Drawn0 w w' := by
 have HR0 := Aside0.mk hr0; have HC0 := Aside0.mk hc0; clear hr0 hc0
 have H : (slices_Index_int_int.l0 k l0 a1 (l0.length : Int) 0) = some r := h
 clear h
 have H' := Aside0.mk H
 clear H; go_enter Try.func38, Try.ntmps38
 go_wp2
 go_loopg [8] k (fun kq v8 w' => ∃ (x8_1 : Int), v8 = .int .i64 x8_1 ∧ Aside0 (slices_Index_int_int.l0 kq l0 a1 (l0.length : Int) x8_1 = some r) ∧ Aside0 (kq ≤ k) ∧ Drawn0 w w')
 case atStart => exact ⟨(0), (by first | rfl | (simp; done) | (simp [*]; done)), H', ⟨Nat.le_refl _⟩, by repeat (first | exact Drawn0.refl _ | apply Drawn0.step)⟩
 case round =>
  clear H'
  try clear p2
  obtain ⟨x8_1, rfl, HA, HK1, ⟨m1, rfl⟩⟩ := hrel
  cases gk with
  | zero => exact absurd HA.out (by simp [slices_Index_int_int.l0])
  | succ k1 =>
   have H := HA.out; clear HA
   simp only [slices_Index_int_int.l0] at H
   by_cases c3 : x8_1 < (l0.length : Int)
   ·rw [if_pos c3] at H
    have c3b0 : decide (x8_1 < (l0.length : Int)) = true := decide_eq_true c3
    clear c3; (try simp only [c3b0])
    by_cases c4 : 0 ≤ x8_1
    ·rw [if_pos c4] at H; have c4b0 : decide (0 ≤ x8_1) = true := decide_eq_true c4; clear c4; (try simp only [c4b0])
     by_cases c5 : x8_1 < (l0.length : Int)
     ·rw [if_pos c5] at H
      have c5b0 : decide (x8_1 < (l0.length : Int)) = true := decide_eq_true c5
      clear c5; (try simp only [c5b0])
      by_cases c6 : a1 = (rd l0 x8_1)
      ·rw [if_pos c6] at H; have c6b0 : (a1 == (rd l0 x8_1)) = true := beq_iff_eq.mpr c6; have c6b1 : (a1 != (rd l0 x8_1)) = false := bne_eq_false_iff_eq.mpr c6; clear c6
       obtain rfl := Option.some.inj H
       have p441 : 0 ≤ (x8_1 : Int) := of_decide_eq_true (by first | (with_reducible assumption) | assumption)
       have q441 : x8_1 < (l0.length : Int) := of_decide_eq_true (by first | (with_reducible assumption) | assumption)
       obtain ⟨ad441, e441, hx441_0⟩ := Kd.at_int HR0.out x8_1 p441 q441
       cases e441
       replace p441 := eq_true p441
       replace q441 := eq_true q441
       go_wp2
       go_ret
       exact ⟨by first | rfl | (simp; done) | (simp [*]; done), by repeat (first | exact Drawn0.refl _ | apply Drawn0.step)⟩
      ·rw [if_neg c6] at H; have c6b0 : (a1 == (rd l0 x8_1)) = false := beq_eq_false_iff_ne.mpr c6; have c6b1 : (a1 != (rd l0 x8_1)) = true := bne_iff_ne.mpr c6
       have H' := Aside0.mk H
       clear H
       have p441 : 0 ≤ (x8_1 : Int) := of_decide_eq_true (by first | (with_reducible assumption) | assumption)
       have q441 : x8_1 < (l0.length : Int) := of_decide_eq_true (by first | (with_reducible assumption) | assumption)
       obtain ⟨ad441, e441, hx441_0⟩ := Kd.at_int HR0.out x8_1 p441 q441
       cases e441
       replace p441 := eq_true p441
       replace q441 := eq_true q441
       go_wp2
       go_roundg k1
       case measure => have := HK1.out; omega
       case rel => exact ⟨(wrap64 (x8_1 + 1)), (by first | rfl | (simp; done) | (simp [*]; done)), H', ⟨by have := HK1.out; omega⟩, by repeat (first | exact Drawn0.refl _ | apply Drawn0.step)⟩
     ·rw [if_neg c5] at H
      exact absurd H (by simp)
    ·rw [if_neg c4] at H
     exact absurd H (by simp)
   ·rw [if_neg c3] at H
    have c3b0 : decide (x8_1 < (l0.length : Int)) = false := decide_eq_false c3
    clear c3; (try simp only [c3b0])
    obtain rfl := Option.some.inj H
    go_wp2
    go_ret
    exact ⟨by first | rfl | (simp; done) | (simp [*]; done), by repeat (first | exact Drawn0.refl _ | apply Drawn0.step)⟩

/-! ### slices_Contains_int_int: function 26 -/
def slices_Contains_int_int.f (k : Nat) (l0 : List Int) (a1 : Int) : Option (Bool) := (slices_Index_int_int.f k l0 a1).bind fun t442 => (some (decide (t442 ≥ 0)))
theorem slices_Contains_int_int.mono : ∀ a0 a1 k, LeO (slices_Contains_int_int.f k a0 a1) (slices_Contains_int_int.f (k + 1) a0 a1) := by
 intro a0 a1 k
 unfold slices_Contains_int_int.f
 repeat' first
   | (with_reducible exact slices_Index_int_int.mono _ _ _)
   | (with_reducible exact LeO.refl _)
   | (with_reducible exact LeO.none _)
   | (with_reducible refine LeO.ite ?_ ?_)
   | (with_reducible refine LeO.bind ?_ (fun _ => ?_))
   | exact slices_Index_int_int.mono _ _ _
   | exact LeO.none _
   | refine LeO.ite ?_ ?_
   | refine LeO.bind ?_ (fun _ => ?_)
set_option maxHeartbeats 8000000 in
set_option maxRecDepth 100000 in
theorem slices_Contains_int_int.calls (k : Nat) (A0 : Option Addr) (c0 : Nat) (l0 : List Int) (a1 : Int) (r : Bool) (w : World) (hr0 : Kd.C (Kd.int .i64) w A0 l0.length l0) (hc0 : l0.length ≤ c0) (h : slices_Contains_int_int.f k l0 a1 = some r) :
  Calls Try.prog 26 #[.slice A0 l0.length c0, .int .i64 a1] w fun e w' => e = .returned (.bool r) ∧ Drawn0 w w' := by
 have HR0 := Aside0.mk hr0; have HC0 := Aside0.mk hc0; clear hr0 hc0
 have H : ((slices_Index_int_int.f k l0 a1).bind fun t442 => (some (decide (t442 ≥ 0)))) = some r := h
 clear h; replace H := Option.bind_eq_some_iff.mp H; obtain ⟨t442, A30, H⟩ := H; have A3 := Aside0.mk A30; clear A30
 obtain rfl := Option.some.inj H
 go_enter Try.func26, Try.ntmps26
 go_wp2_with (first | ((with_reducible refine gate_callee (f := 38) rfl ?_); refine goesL_ (some 7) rfl rfl Try.func38 (by kernel_rfl) rfl #[.slice A0 l0.length c0, .int .i64 a1] rfl (by (try simp only [List.map_toArray, List.map_cons, List.map_nil]); first | done | rfl | (simp only [List.length_drop, List.length_take]; rfl)) ?_; (with_reducible refine (slices_Index_int_int.calls k _ _ l0 a1 t442 _ ?side1 ?side2 A3.out).mono ?_); (case side1 => repeat (first | exact HR0.out | (with_reducible refine Kd.C_alloc ?_ _) | (with_reducible refine Kd.C_drewN ?_ _) | (with_reducible refine Kd.C_drew ?_))); (case side2 => exact HC0.out); rintro e w' ⟨rfl, ⟨nd, rfl⟩⟩; refine ⟨_, rfl, ?_⟩))
 go_ret
 exact ⟨by first | rfl | (simp; done) | (simp [*]; done), by repeat (first | exact Drawn0.refl _ | apply Drawn0.step)⟩

end Go.Proofs.Ytpoedoefbeabkaa.XFnRounds
