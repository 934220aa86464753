-- Written by this session's own program (xprint.py) over the kit's print.
import Derived.Test.YtpoedoefbeabkaaXFnRoundsx0
import Derived.Test.YtpoedoefbeabkaaXFnRoundsx1
import Derived.Test.YtpoedoefbeabkaaXFnRoundsx4
import Derived.Test.YtpoedoefbeabkaaXFnRoundsx5
namespace Go.Proofs.Ytpoedoefbeabkaa.XFnRounds
open Go.RowKit Go.Proofs.YtpoedoefbeabkaaW.PrintWords Go.Proofs.YtpoedoefbeabkaaW.PrintLast Go.Proofs.YtpoedoefbeabkaaW.PrintMore
attribute [local go_sem] max2_int min2_int max_two min_two max_three min_three max_four min_four   -- for this text's walks alone
set_option linter.unusedVariables false
set_option linter.unusedSimpArgs false

/-! ### spec_l11bent: function 20 -/
def spec_l11bent.f (s0_0 : List Int) (s0_1 : Int) (s0_2 : Int) (l1_0 : List Int) (a1_1 : Int) (a1_2 : Int) (a1_3 : Int) (a1_4 : Int) (a1_5 : Int) : Option (List Int × Int × Int × Int × Int × Int × Int × Int) := (spec_l1Once.f s0_0 s0_1 s0_2 8).bind fun bt298 => (if bt298.1 = true then ((spec_l1Below.f s0_0 bt298.2.1 bt298.2.2 6).bind fun bt301 => (if bt301.1 = 0 then ((spec_l1PickInt.f s0_0 bt301.2.1 bt301.2.2 (([(-1), 0, 99] : List Int))).bind fun bt307 => (some (l1_0, bt307.1, a1_2, a1_3, a1_4, a1_5, bt307.2.1, bt307.2.2))) else (if bt301.1 = 1 then ((spec_l1Below.f s0_0 bt301.2.1 bt301.2.2 14).bind fun bt310 => (if l1_0.length < 17592186044416 then (some ((l1_0 ++ [wrap64 (bt310.1 - 1)]), a1_1, a1_2, a1_3, a1_4, a1_5, bt310.2.1, bt310.2.2)) else (none))) else (if bt301.1 = 2 then ((spec_l1Below.f s0_0 bt301.2.1 bt301.2.2 5).bind fun bt316 => (some (l1_0, a1_1, a1_2, wrap64 (bt316.1 - 1), a1_4, a1_5, bt316.2.1, bt316.2.2))) else (if bt301.1 = 3 then ((spec_l1PickInt.f s0_0 bt301.2.1 bt301.2.2 (([(-1), 3, 12] : List Int))).bind fun bt322 => (some (l1_0, a1_1, a1_2, a1_3, bt322.1, a1_5, bt322.2.1, bt322.2.2))) else (if bt301.1 = 4 then ((spec_l1PickInt.f s0_0 bt301.2.1 bt301.2.2 (([(-1), 1, 3, 4, 5] : List Int))).bind fun bt328 => (some (l1_0, a1_1, a1_2, a1_3, a1_4, bt328.1, bt328.2.1, bt328.2.2))) else ((spec_l1PickInt.f s0_0 bt301.2.1 bt301.2.2 (([(-1), 2147483647, 2147483648] : List Int))).bind fun bt334 => (some (l1_0, a1_1, bt334.1, a1_3, a1_4, a1_5, bt334.2.1, bt334.2.2))))))))) else (some (l1_0, a1_1, a1_2, a1_3, a1_4, a1_5, bt298.2.1, bt298.2.2)))
def spec_l11bent.T8 : Bool × List (List Nat × List Nat) := (true, [([], []), ([0], [0]), ([], []), ([2], [2]), ([3], [3]), ([4], [4]), ([1, 5, 3], [1, 5]), ([0, 1, 2, 3, 4, 5, 6], []), ([7, 6, 6, 0, 1, 2, 3, 4, 5, 6], [6, 7])])
def spec_l11bent.B8 : List Nat := [0, 1, 0, 4, 12, 28, 63, 127, 255]
theorem spec_l11bent.tab8 : rtab .any (opsOf Try.f20 8) = spec_l11bent.T8 := by kernel_rfl
theorem spec_l11bent.bits8 : waitsOk spec_l11bent.T8.2 spec_l11bent.B8 = true := by kernel_rfl
set_option maxHeartbeats 8000000 in
set_option maxRecDepth 100000 in
theorem spec_l11bent.calls (g : Nat) (s0_0 : List Int) (s0_1 : Int) (s0_2 : Int) (P1_0_ : Nat → Prop) (u9000_ : Value) (l1_0 : List Int) (a1_1 : Int) (a1_2 : Int) (a1_3 : Int) (a1_4 : Int) (a1_5 : Int) (r1 : List Int) (r2 : Int) (r3 : Int) (r4 : Int) (r5 : Int) (r6 : Int) (r7 : Int) (r8 : Int) (w0 w : World) (hI : IsS62 w0 w g s0_0 s0_1 s0_2) (hB : Below w0.heap.size w0 w) (ho1_0 : Kd.R (Kd.int .i64) 3 w w0.heap.size P1_0_ u9000_ l1_0) (h : spec_l11bent.f s0_0 s0_1 s0_2 l1_0 a1_1 a1_2 a1_3 a1_4 a1_5 = some (r1, r2, r3, r4, r5, r6, r7, r8)) :
  Calls Try.prog 20 #[.pointer (some ⟨g, 0, none⟩), .agg #[u9000_, .int .i64 a1_1, .int .i64 a1_2, .int .i64 a1_3, .int .i64 a1_4, .int .i64 a1_5]] w fun e w' => ∃ v0_ : Value, e = .returned (.agg #[v0_, .int .i64 r2, .int .i64 r3, .int .i64 r4, .int .i64 r5, .int .i64 r6]) ∧ Kd.R (Kd.int .i64) 3 w' w0.heap.size (fun k_ => (P1_0_ k_ ∨ w.heap.size ≤ k_)) v0_ r1 ∧ IsS62 w0 w' g s0_0 r7 r8 ∧ Below w0.heap.size w0 w' ∧ Kept w w' (fun k_ => (P1_0_ k_) ∨ k_ = g) := by
 have hu25 := Try.underlying25
 have HO1_0 := Aside0.mk (show Kd.R (Kd.int .i64) 3 w w0.heap.size (fun k_ => (P1_0_ k_ ∨ w.heap.size ≤ k_)) u9000_ l1_0 from Kd.R_mono ho1_0 (fun k_ hk => (.inl hk)))
 have HI0 := Aside0.mk hI
 have HL := Aside0.mk hB.size
 clear hI
 have HK := Aside0.mk (Kept.refl w (fun k_ => (P1_0_ k_) ∨ k_ = g))
 have HW0 := Aside0.mk hB.size
 have HB := Aside0.mk hB; clear hB
 have H : ((spec_l1Once.f s0_0 s0_1 s0_2 8).bind fun bt298 => (if bt298.1 = true then ((spec_l1Below.f s0_0 bt298.2.1 bt298.2.2 6).bind fun bt301 => (if bt301.1 = 0 then ((spec_l1PickInt.f s0_0 bt301.2.1 bt301.2.2 (([(-1), 0, 99] : List Int))).bind fun bt307 => (some (l1_0, bt307.1, a1_2, a1_3, a1_4, a1_5, bt307.2.1, bt307.2.2))) else (if bt301.1 = 1 then ((spec_l1Below.f s0_0 bt301.2.1 bt301.2.2 14).bind fun bt310 => (if l1_0.length < 17592186044416 then (some ((l1_0 ++ [wrap64 (bt310.1 - 1)]), a1_1, a1_2, a1_3, a1_4, a1_5, bt310.2.1, bt310.2.2)) else (none))) else (if bt301.1 = 2 then ((spec_l1Below.f s0_0 bt301.2.1 bt301.2.2 5).bind fun bt316 => (some (l1_0, a1_1, a1_2, wrap64 (bt316.1 - 1), a1_4, a1_5, bt316.2.1, bt316.2.2))) else (if bt301.1 = 3 then ((spec_l1PickInt.f s0_0 bt301.2.1 bt301.2.2 (([(-1), 3, 12] : List Int))).bind fun bt322 => (some (l1_0, a1_1, a1_2, a1_3, bt322.1, a1_5, bt322.2.1, bt322.2.2))) else (if bt301.1 = 4 then ((spec_l1PickInt.f s0_0 bt301.2.1 bt301.2.2 (([(-1), 1, 3, 4, 5] : List Int))).bind fun bt328 => (some (l1_0, a1_1, a1_2, a1_3, a1_4, bt328.1, bt328.2.1, bt328.2.2))) else ((spec_l1PickInt.f s0_0 bt301.2.1 bt301.2.2 (([(-1), 2147483647, 2147483648] : List Int))).bind fun bt334 => (some (l1_0, a1_1, bt334.1, a1_3, a1_4, a1_5, bt334.2.1, bt334.2.2))))))))) else (some (l1_0, a1_1, a1_2, a1_3, a1_4, a1_5, bt298.2.1, bt298.2.2)))) = some (r1, r2, r3, r4, r5, r6, r7, r8) := h
 clear h; replace H := Option.bind_eq_some_iff.mp H
 obtain ⟨⟨t298, t299, t300⟩, A30, H⟩ := H
 replace H : (if t298 = true then ((spec_l1Below.f s0_0 t299 t300 6).bind fun bt301 => (if bt301.1 = 0 then ((spec_l1PickInt.f s0_0 bt301.2.1 bt301.2.2 (([(-1), 0, 99] : List Int))).bind fun bt307 => (some (l1_0, bt307.1, a1_2, a1_3, a1_4, a1_5, bt307.2.1, bt307.2.2))) else (if bt301.1 = 1 then ((spec_l1Below.f s0_0 bt301.2.1 bt301.2.2 14).bind fun bt310 => (if l1_0.length < 17592186044416 then (some ((l1_0 ++ [wrap64 (bt310.1 - 1)]), a1_1, a1_2, a1_3, a1_4, a1_5, bt310.2.1, bt310.2.2)) else (none))) else (if bt301.1 = 2 then ((spec_l1Below.f s0_0 bt301.2.1 bt301.2.2 5).bind fun bt316 => (some (l1_0, a1_1, a1_2, wrap64 (bt316.1 - 1), a1_4, a1_5, bt316.2.1, bt316.2.2))) else (if bt301.1 = 3 then ((spec_l1PickInt.f s0_0 bt301.2.1 bt301.2.2 (([(-1), 3, 12] : List Int))).bind fun bt322 => (some (l1_0, a1_1, a1_2, a1_3, bt322.1, a1_5, bt322.2.1, bt322.2.2))) else (if bt301.1 = 4 then ((spec_l1PickInt.f s0_0 bt301.2.1 bt301.2.2 (([(-1), 1, 3, 4, 5] : List Int))).bind fun bt328 => (some (l1_0, a1_1, a1_2, a1_3, a1_4, bt328.1, bt328.2.1, bt328.2.2))) else ((spec_l1PickInt.f s0_0 bt301.2.1 bt301.2.2 (([(-1), 2147483647, 2147483648] : List Int))).bind fun bt334 => (some (l1_0, a1_1, bt334.1, a1_3, a1_4, a1_5, bt334.2.1, bt334.2.2))))))))) else (some (l1_0, a1_1, a1_2, a1_3, a1_4, a1_5, t299, t300))) = some (r1, r2, r3, r4, r5, r6, r7, r8) := H
 have A3 := Aside0.mk A30; clear A30
 obtain ⟨Ao4, co4, eo4⟩ := Kd.R_slice HO1_0.out
 subst eo4; go_enter Try.func20, Try.ntmps20
 replace H := Aside0.mk H
 go_wp2_with (first | ((with_reducible refine gate_dst (N := 3) rfl ?_); refine box_event ?hg (N := 3) ?hd (cs := #[.slice Ao4 l1_0.length co4, .int .i64 a1_1, .int .i64 a1_2, .int .i64 a1_3, .int .i64 a1_4, .int .i64 a1_5]) (t := 25) ?hr ?_; (case hd => rfl); (case hg => rfl); (case hr => first | (go_simp; done) | (go_simp; rfl)); intro gb296 hg w5 hbox hb; have n_ := an (Kd.R_below (by exact Kd.R_nw HO1_0.out) hb) (an (IsS62.below (by repeat (first | (with_reducible first | exact HI0.out | apply IsS62.alloc | apply IsS62.drewN | apply IsS62.drew | apply IsS62.set_1 | apply IsS62.set_2) | exact HI0.out)) hb) (an (Kept.below (S := (fun k_ => (P1_0_ k_) ∨ k_ = g)) (by exact kpt) hb) (an (below_step (by repeat (first | (with_reducible first | exact HB.out | apply below_alloc | apply pw_below_drewN | apply below_drew1 | refine below_set ?_ (IsS62.ge HI0.out)) | exact HB.out)) hb) (an (hbox) (an ((by rw [hg]; exact (by first | exact HK.out.1 | exact (show Kept w _ (fun k_ => (P1_0_ k_) ∨ k_ = g) from by exact kpt).1) : w.heap.size ≤ gb296)) (an ((by rw [hg]; exact (below_size (by repeat (first | (with_reducible first | exact HB.out | apply below_alloc | apply pw_below_drewN | apply below_drew1 | refine below_set ?_ (IsS62.ge HI0.out)) | exact HB.out))) : w0.heap.size ≤ gb296)) (an ((by rw [hg]; exact Nat.ne_of_lt (IsS62.lt (show IsS62 w0 _ g s0_0 s0_1 s0_2 from by repeat (first | (with_reducible first | exact HI0.out | apply IsS62.alloc | apply IsS62.drewN | apply IsS62.drew | apply IsS62.set_1 | apply IsS62.set_2) | exact HI0.out))) : g ≠ gb296)) (an ((by rw [hg]; exact Nat.ne_of_gt (IsS62.lt (show IsS62 w0 _ g s0_0 s0_1 s0_2 from by repeat (first | (with_reducible first | exact HI0.out | apply IsS62.alloc | apply IsS62.drewN | apply IsS62.drew | apply IsS62.set_1 | apply IsS62.set_2) | exact HI0.out))) : gb296 ≠ g)) (trivial))))))))); clear HO1_0 HI0 HK HB; obtain ⟨HO1_0, HI0, HK, HB, BK296, GW296, GE296, NB0_296, NB296_0, -⟩ := n_; clear hb hbox hg) | ((with_reducible refine gate_dst (N := 4) rfl ?_); refine box_event ?hg (N := 4) ?hd (cs := #[.slice none 0 0, .int .i64 0, .int .i64 0, .int .i64 0, .int .i64 0, .int .i64 0]) (t := 25) ?hr ?_; (case hd => rfl); (case hg => rfl); (case hr => first | (go_simp; done) | (go_simp; rfl)); intro gb297 hg w6 hbox hb; have n_ := an (Kd.R_below (by exact Kd.R_nw HO1_0.out) hb) (an (IsS62.below (by repeat (first | (with_reducible first | exact HI0.out | apply IsS62.alloc | apply IsS62.drewN | apply IsS62.drew | apply IsS62.set_1 | apply IsS62.set_2 | refine IsS62.far ?_ NB0_296.out _) | exact HI0.out)) hb) (an (blk_below (blk_nw BK296.out) hb) (an (Kept.below (S := (fun k_ => (P1_0_ k_) ∨ k_ = g)) (by exact kpt) hb) (an (below_step (by repeat (first | (with_reducible first | exact HB.out | apply below_alloc | apply pw_below_drewN | apply below_drew1 | refine below_set ?_ (IsS62.ge HI0.out) | refine below_set ?_ GE296.out) | exact HB.out)) hb) (an (hbox) (an ((by rw [hg]; exact (by first | exact HK.out.1 | exact (show Kept w _ (fun k_ => (P1_0_ k_) ∨ k_ = g) from by exact kpt).1) : w.heap.size ≤ gb297)) (an ((by rw [hg]; exact (below_size (by repeat (first | (with_reducible first | exact HB.out | apply below_alloc | apply pw_below_drewN | apply below_drew1 | refine below_set ?_ (IsS62.ge HI0.out) | refine below_set ?_ GE296.out) | exact HB.out))) : w0.heap.size ≤ gb297)) (an ((by rw [hg]; exact Nat.ne_of_lt (blk_lt (blk_nw BK296.out)) : gb296 ≠ gb297)) (an ((by rw [hg]; exact Nat.ne_of_gt (blk_lt (blk_nw BK296.out)) : gb297 ≠ gb296)) (an ((by rw [hg]; exact Nat.ne_of_lt (IsS62.lt (show IsS62 w0 _ g s0_0 s0_1 s0_2 from by repeat (first | (with_reducible first | exact HI0.out | apply IsS62.alloc | apply IsS62.drewN | apply IsS62.drew | apply IsS62.set_1 | apply IsS62.set_2 | refine IsS62.far ?_ NB0_296.out _) | exact HI0.out))) : g ≠ gb297)) (an ((by rw [hg]; exact Nat.ne_of_gt (IsS62.lt (show IsS62 w0 _ g s0_0 s0_1 s0_2 from by repeat (first | (with_reducible first | exact HI0.out | apply IsS62.alloc | apply IsS62.drewN | apply IsS62.drew | apply IsS62.set_1 | apply IsS62.set_2 | refine IsS62.far ?_ NB0_296.out _) | exact HI0.out))) : gb297 ≠ g)) (trivial)))))))))))); clear HO1_0 HI0 BK296 HK HB; obtain ⟨HO1_0, HI0, BK296, HK, HB, BK297, GW297, GE297, NB296_297, NB297_296, NB0_297, NB297_0, -⟩ := n_; clear hb hbox hg) | ((with_reducible refine gate_callee (f := 33) rfl ?_); refine goesL_ (some 6) rfl rfl Try.func33 (by kernel_rfl) rfl #[.pointer (some ⟨g, 0, none⟩), .int .i64 8] rfl (by (try simp only [List.map_toArray, List.map_cons, List.map_nil]); first | done | rfl | (simp only [List.length_drop, List.length_take]; rfl)) ?_; (with_reducible refine (spec_l1Once.calls g s0_0 s0_1 s0_2 8 t298 t299 t300 w0 _ ?side1 ?side2 A3.out).mono ?_); (case side1 => repeat (first | (with_reducible first | exact HI0.out | apply IsS62.alloc | apply IsS62.drewN | apply IsS62.drew | apply IsS62.set_1 | apply IsS62.set_2 | refine IsS62.far ?_ NB0_296.out _ | refine IsS62.far ?_ NB0_297.out _) | exact HI0.out)); (case side2 => repeat (first | (with_reducible first | exact HB.out | apply below_alloc | apply pw_below_drewN | apply below_drew1 | refine below_set ?_ (IsS62.ge HI0.out) | refine below_set ?_ GE296.out | refine below_set ?_ GE297.out) | exact HB.out)); rintro e w7 ⟨rfl, hi, hb, hk⟩; refine ⟨_, rfl, ?_⟩; have n_ := an (Kd.R_mono (Kd.R_keep (IsS62.apart (show IsS62 w0 _ g s0_0 s0_1 s0_2 from by repeat (first | (with_reducible first | exact HI0.out | apply IsS62.alloc | apply IsS62.drewN | apply IsS62.drew | apply IsS62.set_1 | apply IsS62.set_2 | refine IsS62.far ?_ NB0_296.out _ | refine IsS62.far ?_ NB0_297.out _) | exact HI0.out)) (by exact Kd.R_nw HO1_0.out) (by decide)) hk (fun _ h => h.2)) (fun _ h => h.1)) (an (KeepBut.blk hk (blk_nw BK296.out) NB296_0.out (by simp)) (an (KeepBut.blk hk (blk_nw BK297.out) NB297_0.out (by simp)) (an (Kept.of_keep (S := (fun k_ => (P1_0_ k_) ∨ k_ = g)) (by exact kpt) hk (.inl (.inr rfl))) (an (hb) (an (hi) (trivial)))))); clear HO1_0 BK296 BK297 HK HB HI0; obtain ⟨HO1_0, BK296, BK297, HK, HB, HI0, -⟩ := n_; (try clear hb); (try clear hb2); (try clear hk); (try clear hi); refine Stop.out ?_))
 refine Stop.mk ?_
 replace H := H.out
 by_cases c8 : t298 = true
 ·subst c8; rw [if_pos rfl] at H; replace H := Option.bind_eq_some_iff.mp H
  obtain ⟨⟨t301, t302, t303⟩, A90, H⟩ := H
  replace H : (if t301 = 0 then ((spec_l1PickInt.f s0_0 t302 t303 (([(-1), 0, 99] : List Int))).bind fun bt307 => (some (l1_0, bt307.1, a1_2, a1_3, a1_4, a1_5, bt307.2.1, bt307.2.2))) else (if t301 = 1 then ((spec_l1Below.f s0_0 t302 t303 14).bind fun bt310 => (if l1_0.length < 17592186044416 then (some ((l1_0 ++ [wrap64 (bt310.1 - 1)]), a1_1, a1_2, a1_3, a1_4, a1_5, bt310.2.1, bt310.2.2)) else (none))) else (if t301 = 2 then ((spec_l1Below.f s0_0 t302 t303 5).bind fun bt316 => (some (l1_0, a1_1, a1_2, wrap64 (bt316.1 - 1), a1_4, a1_5, bt316.2.1, bt316.2.2))) else (if t301 = 3 then ((spec_l1PickInt.f s0_0 t302 t303 (([(-1), 3, 12] : List Int))).bind fun bt322 => (some (l1_0, a1_1, a1_2, a1_3, bt322.1, a1_5, bt322.2.1, bt322.2.2))) else (if t301 = 4 then ((spec_l1PickInt.f s0_0 t302 t303 (([(-1), 1, 3, 4, 5] : List Int))).bind fun bt328 => (some (l1_0, a1_1, a1_2, a1_3, a1_4, bt328.1, bt328.2.1, bt328.2.2))) else ((spec_l1PickInt.f s0_0 t302 t303 (([(-1), 2147483647, 2147483648] : List Int))).bind fun bt334 => (some (l1_0, a1_1, bt334.1, a1_3, a1_4, a1_5, bt334.2.1, bt334.2.2)))))))) = some (r1, r2, r3, r4, r5, r6, r7, r8) := H
  have A9 := Aside0.mk A90; clear A90
  replace H := Aside0.mk H
  go_wp2_with (first | ((with_reducible refine gate_callee (f := 34) rfl ?_); refine goesL_ (some 10) rfl rfl Try.func34 (by kernel_rfl) rfl #[.pointer (some ⟨g, 0, none⟩), .int .i64 6] rfl (by (try simp only [List.map_toArray, List.map_cons, List.map_nil]); first | done | rfl | (simp only [List.length_drop, List.length_take]; rfl)) ?_; (with_reducible refine (spec_l1Below.calls g s0_0 t299 t300 6 t301 t302 t303 w0 _ ?side1 ?side2 A9.out).mono ?_); (case side1 => repeat (first | (with_reducible first | exact HI0.out | apply IsS62.alloc | apply IsS62.drewN | apply IsS62.drew | apply IsS62.set_1 | apply IsS62.set_2 | refine IsS62.far ?_ NB0_296.out _ | refine IsS62.far ?_ NB0_297.out _) | exact HI0.out)); (case side2 => repeat (first | (with_reducible first | exact HB.out | apply below_alloc | apply pw_below_drewN | apply below_drew1 | refine below_set ?_ (IsS62.ge HI0.out) | refine below_set ?_ GE296.out | refine below_set ?_ GE297.out) | exact HB.out)); rintro e w10 ⟨rfl, hi, hb, hk⟩; refine ⟨_, rfl, ?_⟩; have n_ := an (Kd.R_mono (Kd.R_keep (IsS62.apart (show IsS62 w0 _ g s0_0 t299 t300 from by repeat (first | (with_reducible first | exact HI0.out | apply IsS62.alloc | apply IsS62.drewN | apply IsS62.drew | apply IsS62.set_1 | apply IsS62.set_2 | refine IsS62.far ?_ NB0_296.out _ | refine IsS62.far ?_ NB0_297.out _) | exact HI0.out)) (by exact Kd.R_nw HO1_0.out) (by decide)) hk (fun _ h => h.2)) (fun _ h => h.1)) (an (KeepBut.blk hk (blk_nw BK296.out) NB296_0.out (by simp)) (an (KeepBut.blk hk (blk_nw BK297.out) NB297_0.out (by simp)) (an (Kept.of_keep (S := (fun k_ => (P1_0_ k_) ∨ k_ = g)) (by exact kpt) hk (.inl (.inr rfl))) (an (hb) (an (hi) (trivial)))))); clear HO1_0 BK296 BK297 HK HB HI0; obtain ⟨HO1_0, BK296, BK297, HK, HB, HI0, -⟩ := n_; (try clear hb); (try clear hb2); (try clear hk); (try clear hi); refine Stop.out ?_))
  refine Stop.mk ?_
  replace H := H.out
  by_cases c11 : t301 = 0
  ·rw [if_pos c11] at H; have c11b0 : (t301 == 0) = true := beq_iff_eq.mpr c11; have c11b1 : (t301 != 0) = false := bne_eq_false_iff_eq.mpr c11; clear c11
   obtain ⟨y304, hy304⟩ : ∃ y_ : List Int, y_ = (([(-1), 0, 99] : List Int)) := ⟨_, rfl⟩
   replace H : ((spec_l1PickInt.f s0_0 t302 t303 y304).bind fun bt307 => (some (l1_0, bt307.1, a1_2, a1_3, a1_4, a1_5, bt307.2.1, bt307.2.2))) = some (r1, r2, r3, r4, r5, r6, r7, r8) := by first | (rw [hy304]; with_reducible exact H) | (rw [hy304]; exact H) | exact H
   have Ny304 := Aside0.mk hy304; clear hy304; replace H := Option.bind_eq_some_iff.mp H
   obtain ⟨⟨t307, t308, t309⟩, A120, H⟩ := H
   replace H : (some (l1_0, t307, a1_2, a1_3, a1_4, a1_5, t308, t309)) = some (r1, r2, r3, r4, r5, r6, r7, r8) := H
   have A12 := Aside0.mk A120; clear A120; simp only [Option.some.injEq, Prod.mk.injEq] at H; obtain ⟨rfl, rfl, rfl, rfl, rfl, rfl, rfl, rfl⟩ := H
   go_wp2_with (first | ((with_reducible refine gate_dst (N := 18) rfl ?_); refine Kd.R_lit (Kd.int .i64) _ 3 ?hg (N := 18) ?hd (xs := ([(-1), 0, 99] : List Int)) (inner := [.int .i64 (-1), .int .i64 0, .int .i64 99]) (ok := fun _ => True) (okp := fun _ => True) ?hr ?hp (fun _ hk => hk) trivial (Below.refl _ _) (Nat.le_refl _) (by simp) ?_; (case hd => rfl); (case hg => rfl); (case hr => first | (go_simp; done) | (go_simp; rfl)); (case hp => exact (Reps.one (show Kd.M (Kd.int .i64) _ _ _ (-1) [.int .i64 (-1)] from rfl) (Reps.one (show Kd.M (Kd.int .i64) _ _ _ 0 [.int .i64 0] from rfl) (Reps.one (show Kd.M (Kd.int .i64) _ _ _ 99 [.int .i64 99] from rfl) (Reps.none _ _))))); intro v305 w13 ho14 hb hg_ hnew_; clear hg_ hnew_; (first | rw [← Ny304.out] at ho14 | (simp only [Int.reduceToNat] at ho14; rw [← Ny304.out] at ho14)); have n_ := an (Kd.R_elder' (by exact Kd.R_nw HO1_0.out) (Kd.R_base ho14) hb) (an (Kd.R_lower (Kd.R_new' (Kd.R_newM (M := fun k_ => (P1_0_ k_ ∨ w.heap.size ≤ k_)) ho14 (by first | exact HK.out.1 | exact (show Kept w _ (fun k_ => (P1_0_ k_) ∨ k_ = g) from by exact kpt).1) (fun k_ h_ => .inr h_)) (Kd.R_lt (by exact Kd.R_nw HO1_0.out))) (below_size (by repeat (first | (with_reducible first | exact HB.out | apply below_alloc | apply pw_below_drewN | apply below_drew1 | refine below_set ?_ (IsS62.ge HI0.out) | refine below_set ?_ GE296.out | refine below_set ?_ GE297.out) | exact HB.out)))) (an (IsS62.below (by repeat (first | (with_reducible first | exact HI0.out | apply IsS62.alloc | apply IsS62.drewN | apply IsS62.drew | apply IsS62.set_1 | apply IsS62.set_2 | refine IsS62.far ?_ NB0_296.out _ | refine IsS62.far ?_ NB0_297.out _) | exact HI0.out)) hb) (an (blk_below (blk_nw BK296.out) hb) (an (blk_below (blk_nw BK297.out) hb) (an (Kept.below (S := (fun k_ => (P1_0_ k_) ∨ k_ = g)) (by exact kpt) hb) (an (below_step (by repeat (first | (with_reducible first | exact HB.out | apply below_alloc | apply pw_below_drewN | apply below_drew1 | refine below_set ?_ (IsS62.ge HI0.out) | refine below_set ?_ GE296.out | refine below_set ?_ GE297.out) | exact HB.out)) hb) (trivial))))))); clear HO1_0 HI0 BK296 BK297 HK HB; obtain ⟨HO1_0, HO306, HI0, BK296, BK297, HK, HB, -⟩ := n_; clear hb ho14; obtain ⟨Ao15, co15, eo15⟩ := Kd.R_slice HO306.out; subst eo15) | ((with_reducible refine gate_callee (f := 35) rfl ?_); refine goesL_ (some 19) rfl rfl Try.func35 (by kernel_rfl) rfl #[.pointer (some ⟨g, 0, none⟩), .slice Ao15 y304.length co15] rfl (by (try simp only [List.map_toArray, List.map_cons, List.map_nil]); first | done | rfl | (simp only [List.length_drop, List.length_take]; rfl)) ?_; (with_reducible refine (spec_l1PickInt.calls g s0_0 t302 t303 _ _ y304 t307 t308 t309 w0 _ ?side1 ?side2 ?side3 ?side4 ?side5 A12.out).mono ?_); (case side1 => repeat (first | (with_reducible first | exact HI0.out | apply IsS62.alloc | apply IsS62.drewN | apply IsS62.drew | apply IsS62.set_1 | apply IsS62.set_2 | refine IsS62.far ?_ NB0_296.out _ | refine IsS62.far ?_ NB0_297.out _) | exact HI0.out)); (case side2 => repeat (first | (with_reducible first | exact HB.out | apply below_alloc | apply pw_below_drewN | apply below_drew1 | refine below_set ?_ (IsS62.ge HI0.out) | refine below_set ?_ GE296.out | refine below_set ?_ GE297.out) | exact HB.out)); (case side3 => repeat (first | exact (Kd.R_reads' HO306.out).2.2 | (with_reducible refine Kd.C_alloc ?_ _) | (with_reducible refine Kd.C_drewN ?_ _) | (with_reducible refine Kd.C_drew ?_))); (case side4 => exact (Kd.R_reads' HO306.out).2.1); (case side5 => exact far_slice (IsS62.own_ne HI0.out HO306.out (by decide))); rintro e w16 ⟨rfl, hi, hb, hk⟩; refine ⟨_, rfl, ?_⟩; have n_ := an (Kd.R_mono (Kd.R_keep (IsS62.apart (show IsS62 w0 _ g s0_0 t302 t303 from by repeat (first | (with_reducible first | exact HI0.out | apply IsS62.alloc | apply IsS62.drewN | apply IsS62.drew | apply IsS62.set_1 | apply IsS62.set_2 | refine IsS62.far ?_ NB0_296.out _ | refine IsS62.far ?_ NB0_297.out _) | exact HI0.out)) (by exact Kd.R_nw HO1_0.out) (by decide)) hk (fun _ h => h.2)) (fun _ h => h.1)) (an (KeepBut.blk hk (blk_nw BK296.out) NB296_0.out (by simp)) (an (KeepBut.blk hk (blk_nw BK297.out) NB297_0.out (by simp)) (an (Kd.R_mono (Kd.R_keep (IsS62.apart (show IsS62 w0 _ g s0_0 t302 t303 from by repeat (first | (with_reducible first | exact HI0.out | apply IsS62.alloc | apply IsS62.drewN | apply IsS62.drew | apply IsS62.set_1 | apply IsS62.set_2 | refine IsS62.far ?_ NB0_296.out _ | refine IsS62.far ?_ NB0_297.out _) | exact HI0.out)) (by exact Kd.R_nw HO306.out) (by decide)) hk (fun _ h => h.2)) (fun _ h => h.1)) (an (Kept.of_keep (S := (fun k_ => (P1_0_ k_) ∨ k_ = g)) (by exact kpt) hk (.inl (.inr rfl))) (an (hb) (an (hi) (trivial))))))); clear HO1_0 BK296 BK297 HO306 HK HB HI0; obtain ⟨HO1_0, BK296, BK297, HO306, HK, HB, HI0, -⟩ := n_; (try clear hb); (try clear hb2); (try clear hk); (try clear hi); have hnb17 := NB296_297.out; have hnc17 := NB297_296.out; have hnb18 := NB296_0.out; have hnc18 := NB0_296.out; obtain ⟨hcz19_0, hcz19_1, hcz19_2, hcz19_3, hcz19_4, hcz19_5⟩ := blkz6 BK296.out; have hfz19_0 := blkf BK296.out; have hnb20 := NB297_0.out; have hnc20 := NB0_297.out; obtain ⟨hcz21_0, hcz21_1, hcz21_2, hcz21_3, hcz21_4, hcz21_5⟩ := blkz6 BK297.out; have hfz21_0 := blkf BK297.out))
   refine bodyPost_ret (results_cell_row rfl _ _ gb297 25 #[.slice Ao4 l1_0.length co4, .int .i64 t307, .int .i64 a1_2, .int .i64 a1_3, .int .i64 a1_4, .int .i64 a1_5] (0, 0) _ rfl (by (with_reducible repeat (first | refine blk_drewN ?_ _ | refine blk_drew ?_ | refine blk_alloc ?_ _)); refine blk_put (cs := #[.slice Ao4 l1_0.length co4, .int .i64 t307, .int .i64 a1_2, .int .i64 a1_3, .int .i64 a1_4, .int .i64 0]) ?_ 5 _ rfl; (with_reducible repeat (first | refine blk_drewN ?_ _ | refine blk_drew ?_ | refine blk_alloc ?_ _)); refine blk_put (cs := #[.slice Ao4 l1_0.length co4, .int .i64 t307, .int .i64 a1_2, .int .i64 a1_3, .int .i64 0, .int .i64 0]) ?_ 4 _ rfl; (with_reducible repeat (first | refine blk_drewN ?_ _ | refine blk_drew ?_ | refine blk_alloc ?_ _)); refine blk_put (cs := #[.slice Ao4 l1_0.length co4, .int .i64 t307, .int .i64 a1_2, .int .i64 0, .int .i64 0, .int .i64 0]) ?_ 3 _ rfl; (with_reducible repeat (first | refine blk_drewN ?_ _ | refine blk_drew ?_ | refine blk_alloc ?_ _)); refine blk_put (cs := #[.slice Ao4 l1_0.length co4, .int .i64 t307, .int .i64 0, .int .i64 0, .int .i64 0, .int .i64 0]) ?_ 2 _ rfl; (with_reducible repeat (first | refine blk_drewN ?_ _ | refine blk_drew ?_ | refine blk_alloc ?_ _)); refine blk_put (cs := #[.slice Ao4 l1_0.length co4, .int .i64 0, .int .i64 0, .int .i64 0, .int .i64 0, .int .i64 0]) ?_ 1 _ rfl; (with_reducible repeat (first | refine blk_drewN ?_ _ | refine blk_drew ?_ | refine blk_alloc ?_ _)); refine blk_put (cs := #[.slice none 0 0, .int .i64 0, .int .i64 0, .int .i64 0, .int .i64 0, .int .i64 0]) ?_ 0 _ rfl; (with_reducible repeat (first | refine blk_drewN ?_ _ | refine blk_drew ?_ | refine blk_alloc ?_ _)); refine blk_far ?_ NB297_296.out _; (with_reducible repeat (first | refine blk_drewN ?_ _ | refine blk_drew ?_ | refine blk_alloc ?_ _)); exact BK297.out) Try.underlying25 rfl (by kernel_rfl)) rfl ?_
   exact ⟨_, by first | rfl | (simp [errW_none, errW_some] <;> rfl) | (simp [*, errW_none, errW_some] <;> rfl), by (with_reducible repeat (first | apply Kd.R_alloc | apply Kd.R_drewN | apply Kd.R_drew)); exact Kd.R_mono (Kd.R_far (p := ⟨gb297, 5, none⟩) (Kd.R_far (p := ⟨gb297, 4, none⟩) (Kd.R_far (p := ⟨gb297, 3, none⟩) (Kd.R_far (p := ⟨gb297, 2, none⟩) (Kd.R_far (p := ⟨gb297, 1, none⟩) (Kd.R_far (p := ⟨gb297, 0, none⟩) (Kd.R_far (p := ⟨gb296, 1, none⟩) (Kd.R_types (Kd.R_types HO1_0.out BK296.out (by decide)) BK297.out (by decide)) (fun _ hk => hk.1.2) (.int .i64 t307)) (fun _ hk => hk.2) (.slice Ao4 l1_0.length co4)) (fun _ hk => hk.2) (.int .i64 t307)) (fun _ hk => hk.2) (.int .i64 a1_2)) (fun _ hk => hk.2) (.int .i64 a1_3)) (fun _ hk => hk.2) (.int .i64 a1_4)) (fun _ hk => hk.2) (.int .i64 a1_5)) (fun _ hk => hk.1.1.1), by repeat (first | (with_reducible first | exact HI0.out | apply IsS62.alloc | apply IsS62.drewN | apply IsS62.drew | apply IsS62.set_1 | apply IsS62.set_2 | refine IsS62.far ?_ NB0_296.out _ | refine IsS62.far ?_ NB0_297.out _) | exact HI0.out), by repeat (first | (with_reducible first | exact HB.out | apply below_alloc | apply pw_below_drewN | apply below_drew1 | refine below_set ?_ (IsS62.ge HI0.out) | refine below_set ?_ GE296.out | refine below_set ?_ GE297.out) | exact HB.out), by exact kpt⟩
  ·rw [if_neg c11] at H; have c11b0 : (t301 == 0) = false := beq_eq_false_iff_ne.mpr c11; have c11b1 : (t301 != 0) = true := bne_iff_ne.mpr c11
   by_cases c22 : t301 = 1
   ·rw [if_pos c22] at H; have c22b0 : (t301 == 1) = true := beq_iff_eq.mpr c22; have c22b1 : (t301 != 1) = false := bne_eq_false_iff_eq.mpr c22; clear c22; replace H := Option.bind_eq_some_iff.mp H
    obtain ⟨⟨t310, t311, t312⟩, A230, H⟩ := H
    replace H : (if l1_0.length < 17592186044416 then (some ((l1_0 ++ [wrap64 (t310 - 1)]), a1_1, a1_2, a1_3, a1_4, a1_5, t311, t312)) else (none)) = some (r1, r2, r3, r4, r5, r6, r7, r8) := H
    have A23 := Aside0.mk A230; clear A230
    by_cases c24 : l1_0.length < 17592186044416
    ·rw [if_pos c24] at H; have LMc24 := Aside0.mk c24; clear c24
     obtain ⟨y313, hy313⟩ : ∃ y_ : List Int, y_ = (l1_0 ++ [wrap64 (t310 - 1)]) := ⟨_, rfl⟩
     replace H : (some (y313, a1_1, a1_2, a1_3, a1_4, a1_5, t311, t312)) = some (r1, r2, r3, r4, r5, r6, r7, r8) := by first | (rw [hy313]; with_reducible exact H) | (rw [hy313]; exact H) | exact H
     have Ny313 := Aside0.mk hy313; clear hy313; simp only [Option.some.injEq, Prod.mk.injEq] at H; obtain ⟨rfl, rfl, rfl, rfl, rfl, rfl, rfl, rfl⟩ := H
     try go_wp2
     have n_ := an (Kd.R_drew HO1_0.out) (an (blk_drew BK296.out) (an (blk_drew BK297.out) (an (IsS62.drew HI0.out) (an (Kept.drew HK.out) (an (below_drew1 HB.out) (trivial))))))
     clear HO1_0 BK296 BK297 HI0 HK HB
     obtain ⟨HO1_0, BK296, BK297, HI0, HK, HB, -⟩ := n_
     refine start_ (n := 9) (S := fun w' => w'.cell? ⟨gb296, 0, none⟩ = some (.slice Ao4 l1_0.length co4) ∧ w'.cell? ⟨gb296, 1, none⟩ = some (.int .i64 a1_1) ∧ w'.cell? ⟨gb296, 2, none⟩ = some (.int .i64 a1_2) ∧ w'.cell? ⟨gb296, 3, none⟩ = some (.int .i64 a1_3) ∧ w'.cell? ⟨gb296, 4, none⟩ = some (.int .i64 a1_4) ∧ w'.cell? ⟨gb296, 5, none⟩ = some (.int .i64 a1_5)) (ds := [8]) #[false, false, false, false, false, false, false, false, false] (by kernel_rfl) rfl rfl ⟨(blk_cell BK296.out 0).trans rfl, (blk_cell BK296.out 1).trans rfl, (blk_cell BK296.out 2).trans rfl, (blk_cell BK296.out 3).trans rfl, (blk_cell BK296.out 4).trans rfl, (blk_cell BK296.out 5).trans rfl⟩ (fun hHeld => ?_); refine with_tabW spec_l11bent.tab8 spec_l11bent.bits8 (fun HT_ HW_ => ?_)
     generalize w10.drew = w25 at HO1_0 BK296 BK297 HI0 HK HB hHeld ⊢
     refine pure_ (i := 0) (N := some 23) (v := ?_) (a' := ?_) #[true, false, false, false, false, false, false, false, false] rfl rfl (any_of HT_.out (by kernel_rfl)) (fun _ _ _ h => h) (Or.inl ⟨by rfl, ?_⟩) ?_ ?_
     rotate_left
     ·intro w'
      go_simp
      with_reducible rfl
     rotate_left
     ·simp only [Act.put, List.setIfInBounds_toArray, List.set_cons_zero, List.set_cons_succ, i64_w, i32_w]
      rfl
     refine pure_ (i := 2) (N := some 25) (v := ?_) (a' := ?_) #[true, false, true, false, false, false, false, false, false] rfl rfl (any_of HT_.out (by kernel_rfl)) (fun _ _ _ h => h) (Or.inl ⟨by rfl, ?_⟩) ?_ ?_
     rotate_left
     ·intro w'
      go_simp
      with_reducible rfl
     rotate_left
     ·simp only [Act.put, List.setIfInBounds_toArray, List.set_cons_zero, List.set_cons_succ, i64_w, i32_w]
      rfl
     refine take_ (i := 1) (N := some 24) (v := ?_) (a' := ?_) #[true, true, true, false, false, false, false, false, false] rfl rfl (take_ofW HT_.out HW_.out (by kernel_rfl)) (fun _ _ _ h => h) (Or.inl ⟨by rfl, ?_⟩) hHeld ?_ ?_
     rotate_left
     ·rintro w' ⟨s0, s1, s2, s3, s4, s5⟩
      go_simp
      with_reducible rfl
     rotate_left
     ·simp only [Act.put, List.setIfInBounds_toArray, List.set_cons_zero, List.set_cons_succ, i64_w, i32_w]
      rfl
     refine one_ (i := 3) (N := some 26) #[true, true, true, true, false, false, false, false, false] rfl rfl (one_of HT_.out (by kernel_rfl)) (by decide) (fun K hK => ?_)
     refine goes_ Try.func34 (by kernel_rfl) rfl #[.pointer (some ⟨g, 0, none⟩), .int .i64 14] (by rfl) rfl rfl (by (try simp only [List.map_toArray, List.map_cons, List.map_nil]); first | done | rfl | (simp only [List.length_drop, List.length_take]; rfl)) ?_
     with_reducible refine (spec_l1Below.calls g s0_0 t302 t303 14 t310 t311 t312 w0 _ ?side1 ?side2 A23.out).mono ?_
     (case side1 => repeat (first | (with_reducible first | exact HI0.out | apply IsS62.alloc | apply IsS62.drewN | apply IsS62.drew | apply IsS62.set_1 | apply IsS62.set_2 | refine IsS62.far ?_ NB0_296.out _ | refine IsS62.far ?_ NB0_297.out _) | exact HI0.out))
     (case side2 => repeat (first | (with_reducible first | exact HB.out | apply below_alloc | apply pw_below_drewN | apply below_drew1 | refine below_set ?_ (IsS62.ge HI0.out) | refine below_set ?_ GE296.out | refine below_set ?_ GE297.out) | exact HB.out))
     rintro e w26 ⟨rfl, hi, hb, hk⟩
     refine ⟨_, rfl, ?_⟩
     have n_ := an (Kd.R_mono (Kd.R_keep (IsS62.apart (show IsS62 w0 _ g s0_0 t302 t303 from by repeat (first | (with_reducible first | exact HI0.out | apply IsS62.alloc | apply IsS62.drewN | apply IsS62.drew | apply IsS62.set_1 | apply IsS62.set_2 | refine IsS62.far ?_ NB0_296.out _ | refine IsS62.far ?_ NB0_297.out _) | exact HI0.out)) (by exact Kd.R_nw HO1_0.out) (by decide)) hk (fun _ h => h.2)) (fun _ h => h.1)) (an (KeepBut.blk hk (blk_nw BK296.out) NB296_0.out (by simp)) (an (KeepBut.blk hk (blk_nw BK297.out) NB297_0.out (by simp)) (an (Kept.of_keep (S := (fun k_ => (P1_0_ k_) ∨ k_ = g)) (by exact kpt) hk (.inl (.inr rfl))) (an (hb) (an (hi) (trivial))))))
     clear HO1_0 BK296 BK297 HK HB HI0
     obtain ⟨HO1_0, BK296, BK297, HK, HB, HI0, -⟩ := n_
     (try clear hb); (try clear hb2); (try clear hk); (try clear hi)
     refine hK.out _ _ ⟨(blk_cell BK296.out 0).trans rfl, (blk_cell BK296.out 1).trans rfl, (blk_cell BK296.out 2).trans rfl, (blk_cell BK296.out 3).trans rfl, (blk_cell BK296.out 4).trans rfl, (blk_cell BK296.out 5).trans rfl⟩ (fun hHeld => ?_)
     clear hK K
     refine norm_ (a' := ?_) ?_ ?_
     rotate_left
     ·show Act.put _ (some 26) _ = _
      simp only [Act.put, List.setIfInBounds_toArray, List.set_cons_zero, List.set_cons_succ, i64_w, i32_w]
      rfl
     refine pure_ (i := 4) (N := some 27) (v := ?_) (a' := ?_) #[true, true, true, true, true, false, false, false, false] rfl rfl (any_of HT_.out (by kernel_rfl)) (fun _ _ _ h => h) (Or.inl ⟨by rfl, ?_⟩) ?_ ?_
     rotate_left
     ·intro w'
      go_simp
      with_reducible rfl
     rotate_left
     ·simp only [Act.put, List.setIfInBounds_toArray, List.set_cons_zero, List.set_cons_succ, i64_w, i32_w]
      rfl
     refine one_ (i := 5) (N := some 28) #[true, true, true, true, true, true, false, false, false] rfl rfl (one_of HT_.out (by kernel_rfl)) (by decide) (fun K hK => ?_)
     refine value_ (w1 := ?_) (v := ?_) (by rfl) rfl ?_ ?_
     rotate_left 2
     ·go_simp
      constructor
      ·rfl
      ·rfl
     refine hK.out _ _ ⟨(blk_cell (blk_alloc BK296.out _) 0).trans rfl, (blk_cell (blk_alloc BK296.out _) 1).trans rfl, (blk_cell (blk_alloc BK296.out _) 2).trans rfl, (blk_cell (blk_alloc BK296.out _) 3).trans rfl, (blk_cell (blk_alloc BK296.out _) 4).trans rfl, (blk_cell (blk_alloc BK296.out _) 5).trans rfl⟩ (fun hHeld => ?_)
     clear hK K
     refine norm_ (a' := ?_) ?_ ?_
     rotate_left
     ·show Act.put _ (some 28) _ = _
      simp only [Act.put, List.setIfInBounds_toArray, List.set_cons_zero, List.set_cons_succ, i64_w, i32_w]
      rfl
     refine one_ (i := 6) (N := some 29) #[true, true, true, true, true, true, true, false, false] rfl rfl (one_of HT_.out (by kernel_rfl)) (by decide) (fun K hK => ?_)
     refine Kd.R_append_step (Kd.int .i64) (w0 := w0) w0.heap.size (by rfl) (.tmp 24) (.tmp 28) 23 3 (.int .i64 0) 8 rfl Try.underlying23 info3 rfl (by decide) (by omega) (.slice Ao4 l1_0.length co4) l1_0 (wrap64 (t310 - 1)) [.int .i64 (wrap64 (t310 - 1))] (fun k_ => (P1_0_ k_ ∨ w.heap.size ≤ k_)) (fun _ => False) rfl rfl ?aP (fun _ hk => hk.elim) ?aF ?aO ?aB ?aS ?aL ?_
     (case aP => exact rfl)
     (case aB => exact (by repeat (first | (with_reducible first | exact HB.out | apply below_alloc | apply pw_below_drewN | apply below_drew1 | refine below_set ?_ (IsS62.ge HI0.out) | refine below_set ?_ GE296.out | refine below_set ?_ GE297.out) | exact HB.out)))
     (case aF => exact (fun k_ hk => (.inr (Nat.le_trans (by first | exact HK.out.1 | exact (show Kept w _ (fun k_ => (P1_0_ k_) ∨ k_ = g) from by exact kpt).1) hk))))
     (case aO => exact (by exact Kd.R_nw HO1_0.out))
     (case aS => exact (below_size (by repeat (first | (with_reducible first | exact HB.out | apply below_alloc | apply pw_below_drewN | apply below_drew1 | refine below_set ?_ (IsS62.ge HI0.out) | refine below_set ?_ GE296.out | refine below_set ?_ GE297.out) | exact HB.out))))
     (case aL => have := LMc24.out; omega)
     intro v314 w27 ho hb hg hat
     rw [← Ny313.out] at ho
     have n_ := an (IsS62.grown (by repeat (first | (with_reducible first | exact HI0.out | apply IsS62.alloc | apply IsS62.drewN | apply IsS62.drew | apply IsS62.set_1 | apply IsS62.set_2 | refine IsS62.far ?_ NB0_296.out _ | refine IsS62.far ?_ NB0_297.out _) | exact HI0.out)) hg (IsS62.own_ne HI0.out HO1_0.out (by decide))) (an (blk_grown (blk_nw BK296.out) hg (Kd.R_ne HO1_0.out BK296.out (by decide))) (an (blk_grown (blk_nw BK297.out) hg (Kd.R_ne HO1_0.out BK297.out (by decide))) (an (hb) (an (Kept.of_grown (S := (fun k_ => (P1_0_ k_) ∨ k_ = g)) hg (by exact kpt) (fun k_ e_ => Or.imp_left Or.inl ((HO1_0.out.1 k_ e_)))) (an (ho) (trivial))))))
     clear HI0 BK296 BK297 HB HK HO1_0
     obtain ⟨HI0, BK296, BK297, HB, HK, HO315, -⟩ := n_
     clear ho hb hg hat
     obtain ⟨Ao28, co28, eo28⟩ := Kd.R_slice HO315.out
     (first | subst eo28 | (injection eo28 with f1_ f2_ f3_; have f4_ := f1_.symm; have f5_ := f3_.symm; clear f1_ f2_ f3_; subst f4_; subst f5_))
     refine hK.out _ _ ⟨(blk_cell BK296.out 0).trans rfl, (blk_cell BK296.out 1).trans rfl, (blk_cell BK296.out 2).trans rfl, (blk_cell BK296.out 3).trans rfl, (blk_cell BK296.out 4).trans rfl, (blk_cell BK296.out 5).trans rfl⟩ (fun hHeld => ?_)
     clear hK K
     refine norm_ (a' := ?_) ?_ ?_
     rotate_left
     ·show Act.put _ (some 29) _ = _
      simp only [Act.put, List.setIfInBounds_toArray, List.set_cons_zero, List.set_cons_succ, i64_w, i32_w]
      rfl
     refine pure_ (i := 7) (N := some 30) (v := ?_) (a' := ?_) #[true, true, true, true, true, true, true, true, false] rfl rfl (any_of HT_.out (by kernel_rfl)) (fun _ _ _ h => h) (Or.inl ⟨by rfl, ?_⟩) ?_ ?_
     rotate_left
     ·intro w'
      go_simp
      with_reducible rfl
     rotate_left
     ·simp only [Act.put, List.setIfInBounds_toArray, List.set_cons_zero, List.set_cons_succ, i64_w, i32_w]
      rfl
     refine last_ (i := 8) (N := none) #[true, true, true, true, true, true, true, true, true] rfl rfl (one_of HT_.out (by kernel_rfl)) (by decide) (fun K hK => ?_)
     have hs29 : w27.cell? ⟨gb296, 0, none⟩ = some (.slice Ao4 l1_0.length co4) := (blk_cell BK296.out 0).trans rfl
     have hfs29 := blk_frozen BK296.out 0
     have hns29_1 := NB297_296.out; have hms29_1 := NB296_297.out
     refine skip_ (w1 := ?_) (by rfl) rfl ?_ ?_
     rotate_left
     ·go_simp
      rfl
     refine hK.out _ _ ?_
     clear hK K
     refine done_ (done_of HT_.out (by kernel_rfl)) ?_
     have hnb30 := NB296_297.out; have hnc30 := NB297_296.out; have hnb31 := NB296_0.out; have hnc31 := NB0_296.out; obtain ⟨hcz32_0, hcz32_1, hcz32_2, hcz32_3, hcz32_4, hcz32_5⟩ := blkz6 BK296.out; have hfz32_0 := blkf BK296.out; have hnb33 := NB297_0.out; have hnc33 := NB0_297.out; obtain ⟨hcz34_0, hcz34_1, hcz34_2, hcz34_3, hcz34_4, hcz34_5⟩ := blkz6 BK297.out; have hfz34_0 := blkf BK297.out
     try go_wp2
     refine bodyPost_ret (results_cell_row rfl _ _ gb297 25 #[.slice Ao28 y313.length co28, .int .i64 a1_1, .int .i64 a1_2, .int .i64 a1_3, .int .i64 a1_4, .int .i64 a1_5] (0, 0) _ rfl (by (with_reducible repeat (first | refine blk_drewN ?_ _ | refine blk_drew ?_ | refine blk_alloc ?_ _)); refine blk_put (cs := #[.slice Ao28 y313.length co28, .int .i64 a1_1, .int .i64 a1_2, .int .i64 a1_3, .int .i64 a1_4, .int .i64 0]) ?_ 5 _ rfl; (with_reducible repeat (first | refine blk_drewN ?_ _ | refine blk_drew ?_ | refine blk_alloc ?_ _)); refine blk_put (cs := #[.slice Ao28 y313.length co28, .int .i64 a1_1, .int .i64 a1_2, .int .i64 a1_3, .int .i64 0, .int .i64 0]) ?_ 4 _ rfl; (with_reducible repeat (first | refine blk_drewN ?_ _ | refine blk_drew ?_ | refine blk_alloc ?_ _)); refine blk_put (cs := #[.slice Ao28 y313.length co28, .int .i64 a1_1, .int .i64 a1_2, .int .i64 0, .int .i64 0, .int .i64 0]) ?_ 3 _ rfl; (with_reducible repeat (first | refine blk_drewN ?_ _ | refine blk_drew ?_ | refine blk_alloc ?_ _)); refine blk_put (cs := #[.slice Ao28 y313.length co28, .int .i64 a1_1, .int .i64 0, .int .i64 0, .int .i64 0, .int .i64 0]) ?_ 2 _ rfl; (with_reducible repeat (first | refine blk_drewN ?_ _ | refine blk_drew ?_ | refine blk_alloc ?_ _)); refine blk_put (cs := #[.slice Ao28 y313.length co28, .int .i64 0, .int .i64 0, .int .i64 0, .int .i64 0, .int .i64 0]) ?_ 1 _ rfl; (with_reducible repeat (first | refine blk_drewN ?_ _ | refine blk_drew ?_ | refine blk_alloc ?_ _)); refine blk_put (cs := #[.slice none 0 0, .int .i64 0, .int .i64 0, .int .i64 0, .int .i64 0, .int .i64 0]) ?_ 0 _ rfl; (with_reducible repeat (first | refine blk_drewN ?_ _ | refine blk_drew ?_ | refine blk_alloc ?_ _)); refine blk_far ?_ NB297_296.out _; (with_reducible repeat (first | refine blk_drewN ?_ _ | refine blk_drew ?_ | refine blk_alloc ?_ _)); exact BK297.out) Try.underlying25 rfl (by kernel_rfl)) rfl ?_
     exact ⟨_, by first | rfl | (simp [errW_none, errW_some] <;> rfl) | (simp [*, errW_none, errW_some] <;> rfl), by (with_reducible repeat (first | apply Kd.R_alloc | apply Kd.R_drewN | apply Kd.R_drew)); exact Kd.R_mono (Kd.R_far (p := ⟨gb297, 5, none⟩) (Kd.R_far (p := ⟨gb297, 4, none⟩) (Kd.R_far (p := ⟨gb297, 3, none⟩) (Kd.R_far (p := ⟨gb297, 2, none⟩) (Kd.R_far (p := ⟨gb297, 1, none⟩) (Kd.R_far (p := ⟨gb297, 0, none⟩) (Kd.R_far (p := ⟨gb296, 0, none⟩) (Kd.R_types (Kd.R_types HO315.out BK296.out (by decide)) BK297.out (by decide)) (fun _ hk => hk.1.2) (.slice Ao28 y313.length co28)) (fun _ hk => hk.2) (.slice Ao28 y313.length co28)) (fun _ hk => hk.2) (.int .i64 a1_1)) (fun _ hk => hk.2) (.int .i64 a1_2)) (fun _ hk => hk.2) (.int .i64 a1_3)) (fun _ hk => hk.2) (.int .i64 a1_4)) (fun _ hk => hk.2) (.int .i64 a1_5)) (fun _ hk => hk.1.1), by repeat (first | (with_reducible first | exact HI0.out | apply IsS62.alloc | apply IsS62.drewN | apply IsS62.drew | apply IsS62.set_1 | apply IsS62.set_2 | refine IsS62.far ?_ NB0_296.out _ | refine IsS62.far ?_ NB0_297.out _) | exact HI0.out), by repeat (first | (with_reducible first | exact HB.out | apply below_alloc | apply pw_below_drewN | apply below_drew1 | refine below_set ?_ (IsS62.ge HI0.out) | refine below_set ?_ GE296.out | refine below_set ?_ GE297.out) | exact HB.out), by exact kpt⟩
    ·rw [if_neg c24] at H
     exact absurd H (by simp)
   ·rw [if_neg c22] at H; have c22b0 : (t301 == 1) = false := beq_eq_false_iff_ne.mpr c22; have c22b1 : (t301 != 1) = true := bne_iff_ne.mpr c22
    by_cases c35 : t301 = 2
    ·rw [if_pos c35] at H; have c35b0 : (t301 == 2) = true := beq_iff_eq.mpr c35; have c35b1 : (t301 != 2) = false := bne_eq_false_iff_eq.mpr c35; clear c35; replace H := Option.bind_eq_some_iff.mp H
     obtain ⟨⟨t316, t317, t318⟩, A360, H⟩ := H
     replace H : (some (l1_0, a1_1, a1_2, wrap64 (t316 - 1), a1_4, a1_5, t317, t318)) = some (r1, r2, r3, r4, r5, r6, r7, r8) := H
     have A36 := Aside0.mk A360; clear A360; simp only [Option.some.injEq, Prod.mk.injEq] at H; obtain ⟨rfl, rfl, rfl, rfl, rfl, rfl, rfl, rfl⟩ := H
     go_wp2_with (first | ((with_reducible refine gate_callee (f := 34) rfl ?_); refine goesL_ (some 34) rfl rfl Try.func34 (by kernel_rfl) rfl #[.pointer (some ⟨g, 0, none⟩), .int .i64 5] rfl (by (try simp only [List.map_toArray, List.map_cons, List.map_nil]); first | done | rfl | (simp only [List.length_drop, List.length_take]; rfl)) ?_; (with_reducible refine (spec_l1Below.calls g s0_0 t302 t303 5 t316 t317 t318 w0 _ ?side1 ?side2 A36.out).mono ?_); (case side1 => repeat (first | (with_reducible first | exact HI0.out | apply IsS62.alloc | apply IsS62.drewN | apply IsS62.drew | apply IsS62.set_1 | apply IsS62.set_2 | refine IsS62.far ?_ NB0_296.out _ | refine IsS62.far ?_ NB0_297.out _) | exact HI0.out)); (case side2 => repeat (first | (with_reducible first | exact HB.out | apply below_alloc | apply pw_below_drewN | apply below_drew1 | refine below_set ?_ (IsS62.ge HI0.out) | refine below_set ?_ GE296.out | refine below_set ?_ GE297.out) | exact HB.out)); rintro e w37 ⟨rfl, hi, hb, hk⟩; refine ⟨_, rfl, ?_⟩; have n_ := an (Kd.R_mono (Kd.R_keep (IsS62.apart (show IsS62 w0 _ g s0_0 t302 t303 from by repeat (first | (with_reducible first | exact HI0.out | apply IsS62.alloc | apply IsS62.drewN | apply IsS62.drew | apply IsS62.set_1 | apply IsS62.set_2 | refine IsS62.far ?_ NB0_296.out _ | refine IsS62.far ?_ NB0_297.out _) | exact HI0.out)) (by exact Kd.R_nw HO1_0.out) (by decide)) hk (fun _ h => h.2)) (fun _ h => h.1)) (an (KeepBut.blk hk (blk_nw BK296.out) NB296_0.out (by simp)) (an (KeepBut.blk hk (blk_nw BK297.out) NB297_0.out (by simp)) (an (Kept.of_keep (S := (fun k_ => (P1_0_ k_) ∨ k_ = g)) (by exact kpt) hk (.inl (.inr rfl))) (an (hb) (an (hi) (trivial)))))); clear HO1_0 BK296 BK297 HK HB HI0; obtain ⟨HO1_0, BK296, BK297, HK, HB, HI0, -⟩ := n_; (try clear hb); (try clear hb2); (try clear hk); (try clear hi); have hnb38 := NB296_297.out; have hnc38 := NB297_296.out; have hnb39 := NB296_0.out; have hnc39 := NB0_296.out; obtain ⟨hcz40_0, hcz40_1, hcz40_2, hcz40_3, hcz40_4, hcz40_5⟩ := blkz6 BK296.out; have hfz40_0 := blkf BK296.out; have hnb41 := NB297_0.out; have hnc41 := NB0_297.out; obtain ⟨hcz42_0, hcz42_1, hcz42_2, hcz42_3, hcz42_4, hcz42_5⟩ := blkz6 BK297.out; have hfz42_0 := blkf BK297.out))
     refine bodyPost_ret (results_cell_row rfl _ _ gb297 25 #[.slice Ao4 l1_0.length co4, .int .i64 a1_1, .int .i64 a1_2, .int .i64 (wrap64 (t316 - 1)), .int .i64 a1_4, .int .i64 a1_5] (0, 0) _ rfl (by (with_reducible repeat (first | refine blk_drewN ?_ _ | refine blk_drew ?_ | refine blk_alloc ?_ _)); refine blk_put (cs := #[.slice Ao4 l1_0.length co4, .int .i64 a1_1, .int .i64 a1_2, .int .i64 (wrap64 (t316 - 1)), .int .i64 a1_4, .int .i64 0]) ?_ 5 _ rfl; (with_reducible repeat (first | refine blk_drewN ?_ _ | refine blk_drew ?_ | refine blk_alloc ?_ _)); refine blk_put (cs := #[.slice Ao4 l1_0.length co4, .int .i64 a1_1, .int .i64 a1_2, .int .i64 (wrap64 (t316 - 1)), .int .i64 0, .int .i64 0]) ?_ 4 _ rfl; (with_reducible repeat (first | refine blk_drewN ?_ _ | refine blk_drew ?_ | refine blk_alloc ?_ _)); refine blk_put (cs := #[.slice Ao4 l1_0.length co4, .int .i64 a1_1, .int .i64 a1_2, .int .i64 0, .int .i64 0, .int .i64 0]) ?_ 3 _ rfl; (with_reducible repeat (first | refine blk_drewN ?_ _ | refine blk_drew ?_ | refine blk_alloc ?_ _)); refine blk_put (cs := #[.slice Ao4 l1_0.length co4, .int .i64 a1_1, .int .i64 0, .int .i64 0, .int .i64 0, .int .i64 0]) ?_ 2 _ rfl; (with_reducible repeat (first | refine blk_drewN ?_ _ | refine blk_drew ?_ | refine blk_alloc ?_ _)); refine blk_put (cs := #[.slice Ao4 l1_0.length co4, .int .i64 0, .int .i64 0, .int .i64 0, .int .i64 0, .int .i64 0]) ?_ 1 _ rfl; (with_reducible repeat (first | refine blk_drewN ?_ _ | refine blk_drew ?_ | refine blk_alloc ?_ _)); refine blk_put (cs := #[.slice none 0 0, .int .i64 0, .int .i64 0, .int .i64 0, .int .i64 0, .int .i64 0]) ?_ 0 _ rfl; (with_reducible repeat (first | refine blk_drewN ?_ _ | refine blk_drew ?_ | refine blk_alloc ?_ _)); refine blk_far ?_ NB297_296.out _; (with_reducible repeat (first | refine blk_drewN ?_ _ | refine blk_drew ?_ | refine blk_alloc ?_ _)); exact BK297.out) Try.underlying25 rfl (by kernel_rfl)) rfl ?_
     exact ⟨_, by first | rfl | (simp [errW_none, errW_some] <;> rfl) | (simp [*, errW_none, errW_some] <;> rfl), by (with_reducible repeat (first | apply Kd.R_alloc | apply Kd.R_drewN | apply Kd.R_drew)); exact Kd.R_mono (Kd.R_far (p := ⟨gb297, 5, none⟩) (Kd.R_far (p := ⟨gb297, 4, none⟩) (Kd.R_far (p := ⟨gb297, 3, none⟩) (Kd.R_far (p := ⟨gb297, 2, none⟩) (Kd.R_far (p := ⟨gb297, 1, none⟩) (Kd.R_far (p := ⟨gb297, 0, none⟩) (Kd.R_far (p := ⟨gb296, 3, none⟩) (Kd.R_types (Kd.R_types HO1_0.out BK296.out (by decide)) BK297.out (by decide)) (fun _ hk => hk.1.2) (.int .i64 (wrap64 (t316 - 1)))) (fun _ hk => hk.2) (.slice Ao4 l1_0.length co4)) (fun _ hk => hk.2) (.int .i64 a1_1)) (fun _ hk => hk.2) (.int .i64 a1_2)) (fun _ hk => hk.2) (.int .i64 (wrap64 (t316 - 1)))) (fun _ hk => hk.2) (.int .i64 a1_4)) (fun _ hk => hk.2) (.int .i64 a1_5)) (fun _ hk => hk.1.1), by repeat (first | (with_reducible first | exact HI0.out | apply IsS62.alloc | apply IsS62.drewN | apply IsS62.drew | apply IsS62.set_1 | apply IsS62.set_2 | refine IsS62.far ?_ NB0_296.out _ | refine IsS62.far ?_ NB0_297.out _) | exact HI0.out), by repeat (first | (with_reducible first | exact HB.out | apply below_alloc | apply pw_below_drewN | apply below_drew1 | refine below_set ?_ (IsS62.ge HI0.out) | refine below_set ?_ GE296.out | refine below_set ?_ GE297.out) | exact HB.out), by exact kpt⟩
    ·rw [if_neg c35] at H; have c35b0 : (t301 == 2) = false := beq_eq_false_iff_ne.mpr c35; have c35b1 : (t301 != 2) = true := bne_iff_ne.mpr c35
     by_cases c43 : t301 = 3
     ·rw [if_pos c43] at H; have c43b0 : (t301 == 3) = true := beq_iff_eq.mpr c43; have c43b1 : (t301 != 3) = false := bne_eq_false_iff_eq.mpr c43; clear c43
      obtain ⟨y319, hy319⟩ : ∃ y_ : List Int, y_ = (([(-1), 3, 12] : List Int)) := ⟨_, rfl⟩
      replace H : ((spec_l1PickInt.f s0_0 t302 t303 y319).bind fun bt322 => (some (l1_0, a1_1, a1_2, a1_3, bt322.1, a1_5, bt322.2.1, bt322.2.2))) = some (r1, r2, r3, r4, r5, r6, r7, r8) := by first | (rw [hy319]; with_reducible exact H) | (rw [hy319]; exact H) | exact H
      have Ny319 := Aside0.mk hy319; clear hy319; replace H := Option.bind_eq_some_iff.mp H
      obtain ⟨⟨t322, t323, t324⟩, A440, H⟩ := H
      replace H : (some (l1_0, a1_1, a1_2, a1_3, t322, a1_5, t323, t324)) = some (r1, r2, r3, r4, r5, r6, r7, r8) := H
      have A44 := Aside0.mk A440; clear A440; simp only [Option.some.injEq, Prod.mk.injEq] at H; obtain ⟨rfl, rfl, rfl, rfl, rfl, rfl, rfl, rfl⟩ := H
      go_wp2_with (first | ((with_reducible refine gate_dst (N := 40) rfl ?_); refine Kd.R_lit (Kd.int .i64) _ 3 ?hg (N := 40) ?hd (xs := ([(-1), 3, 12] : List Int)) (inner := [.int .i64 (-1), .int .i64 3, .int .i64 12]) (ok := fun _ => True) (okp := fun _ => True) ?hr ?hp (fun _ hk => hk) trivial (Below.refl _ _) (Nat.le_refl _) (by simp) ?_; (case hd => rfl); (case hg => rfl); (case hr => first | (go_simp; done) | (go_simp; rfl)); (case hp => exact (Reps.one (show Kd.M (Kd.int .i64) _ _ _ (-1) [.int .i64 (-1)] from rfl) (Reps.one (show Kd.M (Kd.int .i64) _ _ _ 3 [.int .i64 3] from rfl) (Reps.one (show Kd.M (Kd.int .i64) _ _ _ 12 [.int .i64 12] from rfl) (Reps.none _ _))))); intro v320 w45 ho46 hb hg_ hnew_; clear hg_ hnew_; (first | rw [← Ny319.out] at ho46 | (simp only [Int.reduceToNat] at ho46; rw [← Ny319.out] at ho46)); have n_ := an (Kd.R_elder' (by exact Kd.R_nw HO1_0.out) (Kd.R_base ho46) hb) (an (Kd.R_lower (Kd.R_new' (Kd.R_newM (M := fun k_ => (P1_0_ k_ ∨ w.heap.size ≤ k_)) ho46 (by first | exact HK.out.1 | exact (show Kept w _ (fun k_ => (P1_0_ k_) ∨ k_ = g) from by exact kpt).1) (fun k_ h_ => .inr h_)) (Kd.R_lt (by exact Kd.R_nw HO1_0.out))) (below_size (by repeat (first | (with_reducible first | exact HB.out | apply below_alloc | apply pw_below_drewN | apply below_drew1 | refine below_set ?_ (IsS62.ge HI0.out) | refine below_set ?_ GE296.out | refine below_set ?_ GE297.out) | exact HB.out)))) (an (IsS62.below (by repeat (first | (with_reducible first | exact HI0.out | apply IsS62.alloc | apply IsS62.drewN | apply IsS62.drew | apply IsS62.set_1 | apply IsS62.set_2 | refine IsS62.far ?_ NB0_296.out _ | refine IsS62.far ?_ NB0_297.out _) | exact HI0.out)) hb) (an (blk_below (blk_nw BK296.out) hb) (an (blk_below (blk_nw BK297.out) hb) (an (Kept.below (S := (fun k_ => (P1_0_ k_) ∨ k_ = g)) (by exact kpt) hb) (an (below_step (by repeat (first | (with_reducible first | exact HB.out | apply below_alloc | apply pw_below_drewN | apply below_drew1 | refine below_set ?_ (IsS62.ge HI0.out) | refine below_set ?_ GE296.out | refine below_set ?_ GE297.out) | exact HB.out)) hb) (trivial))))))); clear HO1_0 HI0 BK296 BK297 HK HB; obtain ⟨HO1_0, HO321, HI0, BK296, BK297, HK, HB, -⟩ := n_; clear hb ho46; obtain ⟨Ao47, co47, eo47⟩ := Kd.R_slice HO321.out; subst eo47) | ((with_reducible refine gate_callee (f := 35) rfl ?_); refine goesL_ (some 41) rfl rfl Try.func35 (by kernel_rfl) rfl #[.pointer (some ⟨g, 0, none⟩), .slice Ao47 y319.length co47] rfl (by (try simp only [List.map_toArray, List.map_cons, List.map_nil]); first | done | rfl | (simp only [List.length_drop, List.length_take]; rfl)) ?_; (with_reducible refine (spec_l1PickInt.calls g s0_0 t302 t303 _ _ y319 t322 t323 t324 w0 _ ?side1 ?side2 ?side3 ?side4 ?side5 A44.out).mono ?_); (case side1 => repeat (first | (with_reducible first | exact HI0.out | apply IsS62.alloc | apply IsS62.drewN | apply IsS62.drew | apply IsS62.set_1 | apply IsS62.set_2 | refine IsS62.far ?_ NB0_296.out _ | refine IsS62.far ?_ NB0_297.out _) | exact HI0.out)); (case side2 => repeat (first | (with_reducible first | exact HB.out | apply below_alloc | apply pw_below_drewN | apply below_drew1 | refine below_set ?_ (IsS62.ge HI0.out) | refine below_set ?_ GE296.out | refine below_set ?_ GE297.out) | exact HB.out)); (case side3 => repeat (first | exact (Kd.R_reads' HO321.out).2.2 | (with_reducible refine Kd.C_alloc ?_ _) | (with_reducible refine Kd.C_drewN ?_ _) | (with_reducible refine Kd.C_drew ?_))); (case side4 => exact (Kd.R_reads' HO321.out).2.1); (case side5 => exact far_slice (IsS62.own_ne HI0.out HO321.out (by decide))); rintro e w48 ⟨rfl, hi, hb, hk⟩; refine ⟨_, rfl, ?_⟩; have n_ := an (Kd.R_mono (Kd.R_keep (IsS62.apart (show IsS62 w0 _ g s0_0 t302 t303 from by repeat (first | (with_reducible first | exact HI0.out | apply IsS62.alloc | apply IsS62.drewN | apply IsS62.drew | apply IsS62.set_1 | apply IsS62.set_2 | refine IsS62.far ?_ NB0_296.out _ | refine IsS62.far ?_ NB0_297.out _) | exact HI0.out)) (by exact Kd.R_nw HO1_0.out) (by decide)) hk (fun _ h => h.2)) (fun _ h => h.1)) (an (KeepBut.blk hk (blk_nw BK296.out) NB296_0.out (by simp)) (an (KeepBut.blk hk (blk_nw BK297.out) NB297_0.out (by simp)) (an (Kd.R_mono (Kd.R_keep (IsS62.apart (show IsS62 w0 _ g s0_0 t302 t303 from by repeat (first | (with_reducible first | exact HI0.out | apply IsS62.alloc | apply IsS62.drewN | apply IsS62.drew | apply IsS62.set_1 | apply IsS62.set_2 | refine IsS62.far ?_ NB0_296.out _ | refine IsS62.far ?_ NB0_297.out _) | exact HI0.out)) (by exact Kd.R_nw HO321.out) (by decide)) hk (fun _ h => h.2)) (fun _ h => h.1)) (an (Kept.of_keep (S := (fun k_ => (P1_0_ k_) ∨ k_ = g)) (by exact kpt) hk (.inl (.inr rfl))) (an (hb) (an (hi) (trivial))))))); clear HO1_0 BK296 BK297 HO321 HK HB HI0; obtain ⟨HO1_0, BK296, BK297, HO321, HK, HB, HI0, -⟩ := n_; (try clear hb); (try clear hb2); (try clear hk); (try clear hi); have hnb49 := NB296_297.out; have hnc49 := NB297_296.out; have hnb50 := NB296_0.out; have hnc50 := NB0_296.out; obtain ⟨hcz51_0, hcz51_1, hcz51_2, hcz51_3, hcz51_4, hcz51_5⟩ := blkz6 BK296.out; have hfz51_0 := blkf BK296.out; have hnb52 := NB297_0.out; have hnc52 := NB0_297.out; obtain ⟨hcz53_0, hcz53_1, hcz53_2, hcz53_3, hcz53_4, hcz53_5⟩ := blkz6 BK297.out; have hfz53_0 := blkf BK297.out))
      refine bodyPost_ret (results_cell_row rfl _ _ gb297 25 #[.slice Ao4 l1_0.length co4, .int .i64 a1_1, .int .i64 a1_2, .int .i64 a1_3, .int .i64 t322, .int .i64 a1_5] (0, 0) _ rfl (by (with_reducible repeat (first | refine blk_drewN ?_ _ | refine blk_drew ?_ | refine blk_alloc ?_ _)); refine blk_put (cs := #[.slice Ao4 l1_0.length co4, .int .i64 a1_1, .int .i64 a1_2, .int .i64 a1_3, .int .i64 t322, .int .i64 0]) ?_ 5 _ rfl; (with_reducible repeat (first | refine blk_drewN ?_ _ | refine blk_drew ?_ | refine blk_alloc ?_ _)); refine blk_put (cs := #[.slice Ao4 l1_0.length co4, .int .i64 a1_1, .int .i64 a1_2, .int .i64 a1_3, .int .i64 0, .int .i64 0]) ?_ 4 _ rfl; (with_reducible repeat (first | refine blk_drewN ?_ _ | refine blk_drew ?_ | refine blk_alloc ?_ _)); refine blk_put (cs := #[.slice Ao4 l1_0.length co4, .int .i64 a1_1, .int .i64 a1_2, .int .i64 0, .int .i64 0, .int .i64 0]) ?_ 3 _ rfl; (with_reducible repeat (first | refine blk_drewN ?_ _ | refine blk_drew ?_ | refine blk_alloc ?_ _)); refine blk_put (cs := #[.slice Ao4 l1_0.length co4, .int .i64 a1_1, .int .i64 0, .int .i64 0, .int .i64 0, .int .i64 0]) ?_ 2 _ rfl; (with_reducible repeat (first | refine blk_drewN ?_ _ | refine blk_drew ?_ | refine blk_alloc ?_ _)); refine blk_put (cs := #[.slice Ao4 l1_0.length co4, .int .i64 0, .int .i64 0, .int .i64 0, .int .i64 0, .int .i64 0]) ?_ 1 _ rfl; (with_reducible repeat (first | refine blk_drewN ?_ _ | refine blk_drew ?_ | refine blk_alloc ?_ _)); refine blk_put (cs := #[.slice none 0 0, .int .i64 0, .int .i64 0, .int .i64 0, .int .i64 0, .int .i64 0]) ?_ 0 _ rfl; (with_reducible repeat (first | refine blk_drewN ?_ _ | refine blk_drew ?_ | refine blk_alloc ?_ _)); refine blk_far ?_ NB297_296.out _; (with_reducible repeat (first | refine blk_drewN ?_ _ | refine blk_drew ?_ | refine blk_alloc ?_ _)); exact BK297.out) Try.underlying25 rfl (by kernel_rfl)) rfl ?_
      exact ⟨_, by first | rfl | (simp [errW_none, errW_some] <;> rfl) | (simp [*, errW_none, errW_some] <;> rfl), by (with_reducible repeat (first | apply Kd.R_alloc | apply Kd.R_drewN | apply Kd.R_drew)); exact Kd.R_mono (Kd.R_far (p := ⟨gb297, 5, none⟩) (Kd.R_far (p := ⟨gb297, 4, none⟩) (Kd.R_far (p := ⟨gb297, 3, none⟩) (Kd.R_far (p := ⟨gb297, 2, none⟩) (Kd.R_far (p := ⟨gb297, 1, none⟩) (Kd.R_far (p := ⟨gb297, 0, none⟩) (Kd.R_far (p := ⟨gb296, 4, none⟩) (Kd.R_types (Kd.R_types HO1_0.out BK296.out (by decide)) BK297.out (by decide)) (fun _ hk => hk.1.2) (.int .i64 t322)) (fun _ hk => hk.2) (.slice Ao4 l1_0.length co4)) (fun _ hk => hk.2) (.int .i64 a1_1)) (fun _ hk => hk.2) (.int .i64 a1_2)) (fun _ hk => hk.2) (.int .i64 a1_3)) (fun _ hk => hk.2) (.int .i64 t322)) (fun _ hk => hk.2) (.int .i64 a1_5)) (fun _ hk => hk.1.1.1), by repeat (first | (with_reducible first | exact HI0.out | apply IsS62.alloc | apply IsS62.drewN | apply IsS62.drew | apply IsS62.set_1 | apply IsS62.set_2 | refine IsS62.far ?_ NB0_296.out _ | refine IsS62.far ?_ NB0_297.out _) | exact HI0.out), by repeat (first | (with_reducible first | exact HB.out | apply below_alloc | apply pw_below_drewN | apply below_drew1 | refine below_set ?_ (IsS62.ge HI0.out) | refine below_set ?_ GE296.out | refine below_set ?_ GE297.out) | exact HB.out), by exact kpt⟩
     ·rw [if_neg c43] at H; have c43b0 : (t301 == 3) = false := beq_eq_false_iff_ne.mpr c43; have c43b1 : (t301 != 3) = true := bne_iff_ne.mpr c43
      by_cases c54 : t301 = 4
      ·rw [if_pos c54] at H; have c54b0 : (t301 == 4) = true := beq_iff_eq.mpr c54; have c54b1 : (t301 != 4) = false := bne_eq_false_iff_eq.mpr c54; clear c54
       obtain ⟨y325, hy325⟩ : ∃ y_ : List Int, y_ = (([(-1), 1, 3, 4, 5] : List Int)) := ⟨_, rfl⟩
       replace H : ((spec_l1PickInt.f s0_0 t302 t303 y325).bind fun bt328 => (some (l1_0, a1_1, a1_2, a1_3, a1_4, bt328.1, bt328.2.1, bt328.2.2))) = some (r1, r2, r3, r4, r5, r6, r7, r8) := by first | (rw [hy325]; with_reducible exact H) | (rw [hy325]; exact H) | exact H
       have Ny325 := Aside0.mk hy325; clear hy325; replace H := Option.bind_eq_some_iff.mp H
       obtain ⟨⟨t328, t329, t330⟩, A550, H⟩ := H
       replace H : (some (l1_0, a1_1, a1_2, a1_3, a1_4, t328, t329, t330)) = some (r1, r2, r3, r4, r5, r6, r7, r8) := H
       have A55 := Aside0.mk A550; clear A550; simp only [Option.some.injEq, Prod.mk.injEq] at H; obtain ⟨rfl, rfl, rfl, rfl, rfl, rfl, rfl, rfl⟩ := H
       go_wp2_with (first | ((with_reducible refine gate_dst (N := 46) rfl ?_); refine Kd.R_lit (Kd.int .i64) _ 3 ?hg (N := 46) ?hd (xs := ([(-1), 1, 3, 4, 5] : List Int)) (inner := [.int .i64 (-1), .int .i64 1, .int .i64 3, .int .i64 4, .int .i64 5]) (ok := fun _ => True) (okp := fun _ => True) ?hr ?hp (fun _ hk => hk) trivial (Below.refl _ _) (Nat.le_refl _) (by simp) ?_; (case hd => rfl); (case hg => rfl); (case hr => first | (go_simp; done) | (go_simp; rfl)); (case hp => exact (Reps.one (show Kd.M (Kd.int .i64) _ _ _ (-1) [.int .i64 (-1)] from rfl) (Reps.one (show Kd.M (Kd.int .i64) _ _ _ 1 [.int .i64 1] from rfl) (Reps.one (show Kd.M (Kd.int .i64) _ _ _ 3 [.int .i64 3] from rfl) (Reps.one (show Kd.M (Kd.int .i64) _ _ _ 4 [.int .i64 4] from rfl) (Reps.one (show Kd.M (Kd.int .i64) _ _ _ 5 [.int .i64 5] from rfl) (Reps.none _ _))))))); intro v326 w56 ho57 hb hg_ hnew_; clear hg_ hnew_; (first | rw [← Ny325.out] at ho57 | (simp only [Int.reduceToNat] at ho57; rw [← Ny325.out] at ho57)); have n_ := an (Kd.R_elder' (by exact Kd.R_nw HO1_0.out) (Kd.R_base ho57) hb) (an (Kd.R_lower (Kd.R_new' (Kd.R_newM (M := fun k_ => (P1_0_ k_ ∨ w.heap.size ≤ k_)) ho57 (by first | exact HK.out.1 | exact (show Kept w _ (fun k_ => (P1_0_ k_) ∨ k_ = g) from by exact kpt).1) (fun k_ h_ => .inr h_)) (Kd.R_lt (by exact Kd.R_nw HO1_0.out))) (below_size (by repeat (first | (with_reducible first | exact HB.out | apply below_alloc | apply pw_below_drewN | apply below_drew1 | refine below_set ?_ (IsS62.ge HI0.out) | refine below_set ?_ GE296.out | refine below_set ?_ GE297.out) | exact HB.out)))) (an (IsS62.below (by repeat (first | (with_reducible first | exact HI0.out | apply IsS62.alloc | apply IsS62.drewN | apply IsS62.drew | apply IsS62.set_1 | apply IsS62.set_2 | refine IsS62.far ?_ NB0_296.out _ | refine IsS62.far ?_ NB0_297.out _) | exact HI0.out)) hb) (an (blk_below (blk_nw BK296.out) hb) (an (blk_below (blk_nw BK297.out) hb) (an (Kept.below (S := (fun k_ => (P1_0_ k_) ∨ k_ = g)) (by exact kpt) hb) (an (below_step (by repeat (first | (with_reducible first | exact HB.out | apply below_alloc | apply pw_below_drewN | apply below_drew1 | refine below_set ?_ (IsS62.ge HI0.out) | refine below_set ?_ GE296.out | refine below_set ?_ GE297.out) | exact HB.out)) hb) (trivial))))))); clear HO1_0 HI0 BK296 BK297 HK HB; obtain ⟨HO1_0, HO327, HI0, BK296, BK297, HK, HB, -⟩ := n_; clear hb ho57; obtain ⟨Ao58, co58, eo58⟩ := Kd.R_slice HO327.out; subst eo58) | ((with_reducible refine gate_callee (f := 35) rfl ?_); refine goesL_ (some 47) rfl rfl Try.func35 (by kernel_rfl) rfl #[.pointer (some ⟨g, 0, none⟩), .slice Ao58 y325.length co58] rfl (by (try simp only [List.map_toArray, List.map_cons, List.map_nil]); first | done | rfl | (simp only [List.length_drop, List.length_take]; rfl)) ?_; (with_reducible refine (spec_l1PickInt.calls g s0_0 t302 t303 _ _ y325 t328 t329 t330 w0 _ ?side1 ?side2 ?side3 ?side4 ?side5 A55.out).mono ?_); (case side1 => repeat (first | (with_reducible first | exact HI0.out | apply IsS62.alloc | apply IsS62.drewN | apply IsS62.drew | apply IsS62.set_1 | apply IsS62.set_2 | refine IsS62.far ?_ NB0_296.out _ | refine IsS62.far ?_ NB0_297.out _) | exact HI0.out)); (case side2 => repeat (first | (with_reducible first | exact HB.out | apply below_alloc | apply pw_below_drewN | apply below_drew1 | refine below_set ?_ (IsS62.ge HI0.out) | refine below_set ?_ GE296.out | refine below_set ?_ GE297.out) | exact HB.out)); (case side3 => repeat (first | exact (Kd.R_reads' HO327.out).2.2 | (with_reducible refine Kd.C_alloc ?_ _) | (with_reducible refine Kd.C_drewN ?_ _) | (with_reducible refine Kd.C_drew ?_))); (case side4 => exact (Kd.R_reads' HO327.out).2.1); (case side5 => exact far_slice (IsS62.own_ne HI0.out HO327.out (by decide))); rintro e w59 ⟨rfl, hi, hb, hk⟩; refine ⟨_, rfl, ?_⟩; have n_ := an (Kd.R_mono (Kd.R_keep (IsS62.apart (show IsS62 w0 _ g s0_0 t302 t303 from by repeat (first | (with_reducible first | exact HI0.out | apply IsS62.alloc | apply IsS62.drewN | apply IsS62.drew | apply IsS62.set_1 | apply IsS62.set_2 | refine IsS62.far ?_ NB0_296.out _ | refine IsS62.far ?_ NB0_297.out _) | exact HI0.out)) (by exact Kd.R_nw HO1_0.out) (by decide)) hk (fun _ h => h.2)) (fun _ h => h.1)) (an (KeepBut.blk hk (blk_nw BK296.out) NB296_0.out (by simp)) (an (KeepBut.blk hk (blk_nw BK297.out) NB297_0.out (by simp)) (an (Kd.R_mono (Kd.R_keep (IsS62.apart (show IsS62 w0 _ g s0_0 t302 t303 from by repeat (first | (with_reducible first | exact HI0.out | apply IsS62.alloc | apply IsS62.drewN | apply IsS62.drew | apply IsS62.set_1 | apply IsS62.set_2 | refine IsS62.far ?_ NB0_296.out _ | refine IsS62.far ?_ NB0_297.out _) | exact HI0.out)) (by exact Kd.R_nw HO327.out) (by decide)) hk (fun _ h => h.2)) (fun _ h => h.1)) (an (Kept.of_keep (S := (fun k_ => (P1_0_ k_) ∨ k_ = g)) (by exact kpt) hk (.inl (.inr rfl))) (an (hb) (an (hi) (trivial))))))); clear HO1_0 BK296 BK297 HO327 HK HB HI0; obtain ⟨HO1_0, BK296, BK297, HO327, HK, HB, HI0, -⟩ := n_; (try clear hb); (try clear hb2); (try clear hk); (try clear hi); have hnb60 := NB296_297.out; have hnc60 := NB297_296.out; have hnb61 := NB296_0.out; have hnc61 := NB0_296.out; obtain ⟨hcz62_0, hcz62_1, hcz62_2, hcz62_3, hcz62_4, hcz62_5⟩ := blkz6 BK296.out; have hfz62_0 := blkf BK296.out; have hnb63 := NB297_0.out; have hnc63 := NB0_297.out; obtain ⟨hcz64_0, hcz64_1, hcz64_2, hcz64_3, hcz64_4, hcz64_5⟩ := blkz6 BK297.out; have hfz64_0 := blkf BK297.out))
       refine bodyPost_ret (results_cell_row rfl _ _ gb297 25 #[.slice Ao4 l1_0.length co4, .int .i64 a1_1, .int .i64 a1_2, .int .i64 a1_3, .int .i64 a1_4, .int .i64 t328] (0, 0) _ rfl (by (with_reducible repeat (first | refine blk_drewN ?_ _ | refine blk_drew ?_ | refine blk_alloc ?_ _)); refine blk_put (cs := #[.slice Ao4 l1_0.length co4, .int .i64 a1_1, .int .i64 a1_2, .int .i64 a1_3, .int .i64 a1_4, .int .i64 0]) ?_ 5 _ rfl; (with_reducible repeat (first | refine blk_drewN ?_ _ | refine blk_drew ?_ | refine blk_alloc ?_ _)); refine blk_put (cs := #[.slice Ao4 l1_0.length co4, .int .i64 a1_1, .int .i64 a1_2, .int .i64 a1_3, .int .i64 0, .int .i64 0]) ?_ 4 _ rfl; (with_reducible repeat (first | refine blk_drewN ?_ _ | refine blk_drew ?_ | refine blk_alloc ?_ _)); refine blk_put (cs := #[.slice Ao4 l1_0.length co4, .int .i64 a1_1, .int .i64 a1_2, .int .i64 0, .int .i64 0, .int .i64 0]) ?_ 3 _ rfl; (with_reducible repeat (first | refine blk_drewN ?_ _ | refine blk_drew ?_ | refine blk_alloc ?_ _)); refine blk_put (cs := #[.slice Ao4 l1_0.length co4, .int .i64 a1_1, .int .i64 0, .int .i64 0, .int .i64 0, .int .i64 0]) ?_ 2 _ rfl; (with_reducible repeat (first | refine blk_drewN ?_ _ | refine blk_drew ?_ | refine blk_alloc ?_ _)); refine blk_put (cs := #[.slice Ao4 l1_0.length co4, .int .i64 0, .int .i64 0, .int .i64 0, .int .i64 0, .int .i64 0]) ?_ 1 _ rfl; (with_reducible repeat (first | refine blk_drewN ?_ _ | refine blk_drew ?_ | refine blk_alloc ?_ _)); refine blk_put (cs := #[.slice none 0 0, .int .i64 0, .int .i64 0, .int .i64 0, .int .i64 0, .int .i64 0]) ?_ 0 _ rfl; (with_reducible repeat (first | refine blk_drewN ?_ _ | refine blk_drew ?_ | refine blk_alloc ?_ _)); refine blk_far ?_ NB297_296.out _; (with_reducible repeat (first | refine blk_drewN ?_ _ | refine blk_drew ?_ | refine blk_alloc ?_ _)); exact BK297.out) Try.underlying25 rfl (by kernel_rfl)) rfl ?_
       exact ⟨_, by first | rfl | (simp [errW_none, errW_some] <;> rfl) | (simp [*, errW_none, errW_some] <;> rfl), by (with_reducible repeat (first | apply Kd.R_alloc | apply Kd.R_drewN | apply Kd.R_drew)); exact Kd.R_mono (Kd.R_far (p := ⟨gb297, 5, none⟩) (Kd.R_far (p := ⟨gb297, 4, none⟩) (Kd.R_far (p := ⟨gb297, 3, none⟩) (Kd.R_far (p := ⟨gb297, 2, none⟩) (Kd.R_far (p := ⟨gb297, 1, none⟩) (Kd.R_far (p := ⟨gb297, 0, none⟩) (Kd.R_far (p := ⟨gb296, 5, none⟩) (Kd.R_types (Kd.R_types HO1_0.out BK296.out (by decide)) BK297.out (by decide)) (fun _ hk => hk.1.2) (.int .i64 t328)) (fun _ hk => hk.2) (.slice Ao4 l1_0.length co4)) (fun _ hk => hk.2) (.int .i64 a1_1)) (fun _ hk => hk.2) (.int .i64 a1_2)) (fun _ hk => hk.2) (.int .i64 a1_3)) (fun _ hk => hk.2) (.int .i64 a1_4)) (fun _ hk => hk.2) (.int .i64 t328)) (fun _ hk => hk.1.1.1), by repeat (first | (with_reducible first | exact HI0.out | apply IsS62.alloc | apply IsS62.drewN | apply IsS62.drew | apply IsS62.set_1 | apply IsS62.set_2 | refine IsS62.far ?_ NB0_296.out _ | refine IsS62.far ?_ NB0_297.out _) | exact HI0.out), by repeat (first | (with_reducible first | exact HB.out | apply below_alloc | apply pw_below_drewN | apply below_drew1 | refine below_set ?_ (IsS62.ge HI0.out) | refine below_set ?_ GE296.out | refine below_set ?_ GE297.out) | exact HB.out), by exact kpt⟩
      ·rw [if_neg c54] at H; have c54b0 : (t301 == 4) = false := beq_eq_false_iff_ne.mpr c54; have c54b1 : (t301 != 4) = true := bne_iff_ne.mpr c54
       obtain ⟨y331, hy331⟩ : ∃ y_ : List Int, y_ = (([(-1), 2147483647, 2147483648] : List Int)) := ⟨_, rfl⟩
       replace H : ((spec_l1PickInt.f s0_0 t302 t303 y331).bind fun bt334 => (some (l1_0, a1_1, bt334.1, a1_3, a1_4, a1_5, bt334.2.1, bt334.2.2))) = some (r1, r2, r3, r4, r5, r6, r7, r8) := by first | (rw [hy331]; with_reducible exact H) | (rw [hy331]; exact H) | exact H
       have Ny331 := Aside0.mk hy331; clear hy331; replace H := Option.bind_eq_some_iff.mp H
       obtain ⟨⟨t334, t335, t336⟩, A650, H⟩ := H
       replace H : (some (l1_0, a1_1, t334, a1_3, a1_4, a1_5, t335, t336)) = some (r1, r2, r3, r4, r5, r6, r7, r8) := H
       have A65 := Aside0.mk A650; clear A650; simp only [Option.some.injEq, Prod.mk.injEq] at H; obtain ⟨rfl, rfl, rfl, rfl, rfl, rfl, rfl, rfl⟩ := H
       go_wp2_with (first | ((with_reducible refine gate_dst (N := 12) rfl ?_); refine Kd.R_lit (Kd.int .i64) _ 3 ?hg (N := 12) ?hd (xs := ([(-1), 2147483647, 2147483648] : List Int)) (inner := [.int .i64 (-1), .int .i64 2147483647, .int .i64 2147483648]) (ok := fun _ => True) (okp := fun _ => True) ?hr ?hp (fun _ hk => hk) trivial (Below.refl _ _) (Nat.le_refl _) (by simp) ?_; (case hd => rfl); (case hg => rfl); (case hr => first | (go_simp; done) | (go_simp; rfl)); (case hp => exact (Reps.one (show Kd.M (Kd.int .i64) _ _ _ (-1) [.int .i64 (-1)] from rfl) (Reps.one (show Kd.M (Kd.int .i64) _ _ _ 2147483647 [.int .i64 2147483647] from rfl) (Reps.one (show Kd.M (Kd.int .i64) _ _ _ 2147483648 [.int .i64 2147483648] from rfl) (Reps.none _ _))))); intro v332 w66 ho67 hb hg_ hnew_; clear hg_ hnew_; (first | rw [← Ny331.out] at ho67 | (simp only [Int.reduceToNat] at ho67; rw [← Ny331.out] at ho67)); have n_ := an (Kd.R_elder' (by exact Kd.R_nw HO1_0.out) (Kd.R_base ho67) hb) (an (Kd.R_lower (Kd.R_new' (Kd.R_newM (M := fun k_ => (P1_0_ k_ ∨ w.heap.size ≤ k_)) ho67 (by first | exact HK.out.1 | exact (show Kept w _ (fun k_ => (P1_0_ k_) ∨ k_ = g) from by exact kpt).1) (fun k_ h_ => .inr h_)) (Kd.R_lt (by exact Kd.R_nw HO1_0.out))) (below_size (by repeat (first | (with_reducible first | exact HB.out | apply below_alloc | apply pw_below_drewN | apply below_drew1 | refine below_set ?_ (IsS62.ge HI0.out) | refine below_set ?_ GE296.out | refine below_set ?_ GE297.out) | exact HB.out)))) (an (IsS62.below (by repeat (first | (with_reducible first | exact HI0.out | apply IsS62.alloc | apply IsS62.drewN | apply IsS62.drew | apply IsS62.set_1 | apply IsS62.set_2 | refine IsS62.far ?_ NB0_296.out _ | refine IsS62.far ?_ NB0_297.out _) | exact HI0.out)) hb) (an (blk_below (blk_nw BK296.out) hb) (an (blk_below (blk_nw BK297.out) hb) (an (Kept.below (S := (fun k_ => (P1_0_ k_) ∨ k_ = g)) (by exact kpt) hb) (an (below_step (by repeat (first | (with_reducible first | exact HB.out | apply below_alloc | apply pw_below_drewN | apply below_drew1 | refine below_set ?_ (IsS62.ge HI0.out) | refine below_set ?_ GE296.out | refine below_set ?_ GE297.out) | exact HB.out)) hb) (trivial))))))); clear HO1_0 HI0 BK296 BK297 HK HB; obtain ⟨HO1_0, HO333, HI0, BK296, BK297, HK, HB, -⟩ := n_; clear hb ho67; obtain ⟨Ao68, co68, eo68⟩ := Kd.R_slice HO333.out; subst eo68) | ((with_reducible refine gate_callee (f := 35) rfl ?_); refine goesL_ (some 13) rfl rfl Try.func35 (by kernel_rfl) rfl #[.pointer (some ⟨g, 0, none⟩), .slice Ao68 y331.length co68] rfl (by (try simp only [List.map_toArray, List.map_cons, List.map_nil]); first | done | rfl | (simp only [List.length_drop, List.length_take]; rfl)) ?_; (with_reducible refine (spec_l1PickInt.calls g s0_0 t302 t303 _ _ y331 t334 t335 t336 w0 _ ?side1 ?side2 ?side3 ?side4 ?side5 A65.out).mono ?_); (case side1 => repeat (first | (with_reducible first | exact HI0.out | apply IsS62.alloc | apply IsS62.drewN | apply IsS62.drew | apply IsS62.set_1 | apply IsS62.set_2 | refine IsS62.far ?_ NB0_296.out _ | refine IsS62.far ?_ NB0_297.out _) | exact HI0.out)); (case side2 => repeat (first | (with_reducible first | exact HB.out | apply below_alloc | apply pw_below_drewN | apply below_drew1 | refine below_set ?_ (IsS62.ge HI0.out) | refine below_set ?_ GE296.out | refine below_set ?_ GE297.out) | exact HB.out)); (case side3 => repeat (first | exact (Kd.R_reads' HO333.out).2.2 | (with_reducible refine Kd.C_alloc ?_ _) | (with_reducible refine Kd.C_drewN ?_ _) | (with_reducible refine Kd.C_drew ?_))); (case side4 => exact (Kd.R_reads' HO333.out).2.1); (case side5 => exact far_slice (IsS62.own_ne HI0.out HO333.out (by decide))); rintro e w69 ⟨rfl, hi, hb, hk⟩; refine ⟨_, rfl, ?_⟩; have n_ := an (Kd.R_mono (Kd.R_keep (IsS62.apart (show IsS62 w0 _ g s0_0 t302 t303 from by repeat (first | (with_reducible first | exact HI0.out | apply IsS62.alloc | apply IsS62.drewN | apply IsS62.drew | apply IsS62.set_1 | apply IsS62.set_2 | refine IsS62.far ?_ NB0_296.out _ | refine IsS62.far ?_ NB0_297.out _) | exact HI0.out)) (by exact Kd.R_nw HO1_0.out) (by decide)) hk (fun _ h => h.2)) (fun _ h => h.1)) (an (KeepBut.blk hk (blk_nw BK296.out) NB296_0.out (by simp)) (an (KeepBut.blk hk (blk_nw BK297.out) NB297_0.out (by simp)) (an (Kd.R_mono (Kd.R_keep (IsS62.apart (show IsS62 w0 _ g s0_0 t302 t303 from by repeat (first | (with_reducible first | exact HI0.out | apply IsS62.alloc | apply IsS62.drewN | apply IsS62.drew | apply IsS62.set_1 | apply IsS62.set_2 | refine IsS62.far ?_ NB0_296.out _ | refine IsS62.far ?_ NB0_297.out _) | exact HI0.out)) (by exact Kd.R_nw HO333.out) (by decide)) hk (fun _ h => h.2)) (fun _ h => h.1)) (an (Kept.of_keep (S := (fun k_ => (P1_0_ k_) ∨ k_ = g)) (by exact kpt) hk (.inl (.inr rfl))) (an (hb) (an (hi) (trivial))))))); clear HO1_0 BK296 BK297 HO333 HK HB HI0; obtain ⟨HO1_0, BK296, BK297, HO333, HK, HB, HI0, -⟩ := n_; (try clear hb); (try clear hb2); (try clear hk); (try clear hi); have hnb70 := NB296_297.out; have hnc70 := NB297_296.out; have hnb71 := NB296_0.out; have hnc71 := NB0_296.out; obtain ⟨hcz72_0, hcz72_1, hcz72_2, hcz72_3, hcz72_4, hcz72_5⟩ := blkz6 BK296.out; have hfz72_0 := blkf BK296.out; have hnb73 := NB297_0.out; have hnc73 := NB0_297.out; obtain ⟨hcz74_0, hcz74_1, hcz74_2, hcz74_3, hcz74_4, hcz74_5⟩ := blkz6 BK297.out; have hfz74_0 := blkf BK297.out))
       refine bodyPost_ret (results_cell_row rfl _ _ gb297 25 #[.slice Ao4 l1_0.length co4, .int .i64 a1_1, .int .i64 t334, .int .i64 a1_3, .int .i64 a1_4, .int .i64 a1_5] (0, 0) _ rfl (by (with_reducible repeat (first | refine blk_drewN ?_ _ | refine blk_drew ?_ | refine blk_alloc ?_ _)); refine blk_put (cs := #[.slice Ao4 l1_0.length co4, .int .i64 a1_1, .int .i64 t334, .int .i64 a1_3, .int .i64 a1_4, .int .i64 0]) ?_ 5 _ rfl; (with_reducible repeat (first | refine blk_drewN ?_ _ | refine blk_drew ?_ | refine blk_alloc ?_ _)); refine blk_put (cs := #[.slice Ao4 l1_0.length co4, .int .i64 a1_1, .int .i64 t334, .int .i64 a1_3, .int .i64 0, .int .i64 0]) ?_ 4 _ rfl; (with_reducible repeat (first | refine blk_drewN ?_ _ | refine blk_drew ?_ | refine blk_alloc ?_ _)); refine blk_put (cs := #[.slice Ao4 l1_0.length co4, .int .i64 a1_1, .int .i64 t334, .int .i64 0, .int .i64 0, .int .i64 0]) ?_ 3 _ rfl; (with_reducible repeat (first | refine blk_drewN ?_ _ | refine blk_drew ?_ | refine blk_alloc ?_ _)); refine blk_put (cs := #[.slice Ao4 l1_0.length co4, .int .i64 a1_1, .int .i64 0, .int .i64 0, .int .i64 0, .int .i64 0]) ?_ 2 _ rfl; (with_reducible repeat (first | refine blk_drewN ?_ _ | refine blk_drew ?_ | refine blk_alloc ?_ _)); refine blk_put (cs := #[.slice Ao4 l1_0.length co4, .int .i64 0, .int .i64 0, .int .i64 0, .int .i64 0, .int .i64 0]) ?_ 1 _ rfl; (with_reducible repeat (first | refine blk_drewN ?_ _ | refine blk_drew ?_ | refine blk_alloc ?_ _)); refine blk_put (cs := #[.slice none 0 0, .int .i64 0, .int .i64 0, .int .i64 0, .int .i64 0, .int .i64 0]) ?_ 0 _ rfl; (with_reducible repeat (first | refine blk_drewN ?_ _ | refine blk_drew ?_ | refine blk_alloc ?_ _)); refine blk_far ?_ NB297_296.out _; (with_reducible repeat (first | refine blk_drewN ?_ _ | refine blk_drew ?_ | refine blk_alloc ?_ _)); exact BK297.out) Try.underlying25 rfl (by kernel_rfl)) rfl ?_
       exact ⟨_, by first | rfl | (simp [errW_none, errW_some] <;> rfl) | (simp [*, errW_none, errW_some] <;> rfl), by (with_reducible repeat (first | apply Kd.R_alloc | apply Kd.R_drewN | apply Kd.R_drew)); exact Kd.R_mono (Kd.R_far (p := ⟨gb297, 5, none⟩) (Kd.R_far (p := ⟨gb297, 4, none⟩) (Kd.R_far (p := ⟨gb297, 3, none⟩) (Kd.R_far (p := ⟨gb297, 2, none⟩) (Kd.R_far (p := ⟨gb297, 1, none⟩) (Kd.R_far (p := ⟨gb297, 0, none⟩) (Kd.R_far (p := ⟨gb296, 2, none⟩) (Kd.R_types (Kd.R_types HO1_0.out BK296.out (by decide)) BK297.out (by decide)) (fun _ hk => hk.1.2) (.int .i64 t334)) (fun _ hk => hk.2) (.slice Ao4 l1_0.length co4)) (fun _ hk => hk.2) (.int .i64 a1_1)) (fun _ hk => hk.2) (.int .i64 t334)) (fun _ hk => hk.2) (.int .i64 a1_3)) (fun _ hk => hk.2) (.int .i64 a1_4)) (fun _ hk => hk.2) (.int .i64 a1_5)) (fun _ hk => hk.1.1.1), by repeat (first | (with_reducible first | exact HI0.out | apply IsS62.alloc | apply IsS62.drewN | apply IsS62.drew | apply IsS62.set_1 | apply IsS62.set_2 | refine IsS62.far ?_ NB0_296.out _ | refine IsS62.far ?_ NB0_297.out _) | exact HI0.out), by repeat (first | (with_reducible first | exact HB.out | apply below_alloc | apply pw_below_drewN | apply below_drew1 | refine below_set ?_ (IsS62.ge HI0.out) | refine below_set ?_ GE296.out | refine below_set ?_ GE297.out) | exact HB.out), by exact kpt⟩
 ·replace c8 := Bool.eq_false_iff.mpr c8
  subst c8
  rw [if_neg (show ¬ (false = true) by decide)] at H
  simp only [Option.some.injEq, Prod.mk.injEq] at H; obtain ⟨rfl, rfl, rfl, rfl, rfl, rfl, rfl, rfl⟩ := H; have hnb75 := NB296_297.out; have hnc75 := NB297_296.out; have hnb76 := NB296_0.out; have hnc76 := NB0_296.out; obtain ⟨hcz77_0, hcz77_1, hcz77_2, hcz77_3, hcz77_4, hcz77_5⟩ := blkz6 BK296.out; have hfz77_0 := blkf BK296.out; have hnb78 := NB297_0.out; have hnc78 := NB0_297.out; obtain ⟨hcz79_0, hcz79_1, hcz79_2, hcz79_3, hcz79_4, hcz79_5⟩ := blkz6 BK297.out; have hfz79_0 := blkf BK297.out
  go_wp2
  refine bodyPost_ret (results_cell_row rfl _ _ gb297 25 #[.slice Ao4 l1_0.length co4, .int .i64 a1_1, .int .i64 a1_2, .int .i64 a1_3, .int .i64 a1_4, .int .i64 a1_5] (0, 0) _ rfl (by (with_reducible repeat (first | refine blk_drewN ?_ _ | refine blk_drew ?_ | refine blk_alloc ?_ _)); exact blk_fill6 BK297.out) Try.underlying25 rfl (by kernel_rfl)) rfl ?_
  exact ⟨_, by first | rfl | (simp [errW_none, errW_some] <;> rfl) | (simp [*, errW_none, errW_some] <;> rfl), by exact (Kd.R_farN HO1_0.out BK297.out), by repeat (first | (with_reducible first | exact HI0.out | apply IsS62.alloc | apply IsS62.drewN | apply IsS62.drew | apply IsS62.set_1 | apply IsS62.set_2 | refine IsS62.far ?_ NB0_296.out _ | refine IsS62.far ?_ NB0_297.out _) | exact HI0.out), by repeat (first | (with_reducible first | exact HB.out | apply below_alloc | apply pw_below_drewN | apply below_drew1 | refine below_set ?_ (IsS62.ge HI0.out) | refine below_set ?_ GE296.out | refine below_set ?_ GE297.out) | exact HB.out), by exact kpt⟩

/-! ### spec_Live: function 62 -/
def spec_Live.l0 : Nat → List Int → Int → Int → List (S40) → Option (List Int)
  | 0, _, _, _, _ => none
  | k + 1, x3, x4, x338000, x338001 => if x4 < (x338001.length : Int) then (if 0 ≤ x4 then (if ((rd_T40 x338001 x4).f1) ≤ 1 then (if x3.length < 17592186044416 then (spec_Live.l0 k (x3 ++ [(rd_T40 x338001 x4).f0]) (wrap64 (x4 + 1)) x338000 x338001) else (none)) else (spec_Live.l0 k x3 (wrap64 (x4 + 1)) x338000 x338001)) else (none)) else (some x3)
def spec_Live.f (k : Nat) (a0_0 : Int) (l0_1 : List (S40)) : Option (List Int) := (spec_TableOk.f k a0_0 l0_1).bind fun t338 => (if t338 = true then (spec_Live.l0 k ([] : List Int) 0 a0_0 l0_1) else (some ([] : List Int)))
theorem spec_Live.mono_l : ∀ k, (∀ y0 y1 y2 y3, LeO (spec_Live.l0 k y0 y1 y2 y3) (spec_Live.l0 (k + 1) y0 y1 y2 y3))
 | 0 => fun _ _ _ _ r h => by simp [spec_Live.l0] at h
 | k + 1 => by
  have ih0 := spec_Live.mono_l k
  ·intro y0 y1 y2 y3
   unfold spec_Live.l0
   repeat' first
   | (with_reducible exact ih0 _ _ _ _)
   | (with_reducible exact spec_TableOk.mono _ _ _)
   | (with_reducible exact LeO.refl _)
   | (with_reducible exact LeO.none _)
   | (with_reducible refine LeO.ite ?_ ?_)
   | (with_reducible refine LeO.bind ?_ (fun _ => ?_))
   | exact ih0 _ _ _ _
   | exact spec_TableOk.mono _ _ _
   | exact LeO.none _
   | refine LeO.ite ?_ ?_
   | refine LeO.bind ?_ (fun _ => ?_)
theorem spec_Live.mono : ∀ a0 a1 k, LeO (spec_Live.f k a0 a1) (spec_Live.f (k + 1) a0 a1) := by
 intro a0 a1 k
 have ih0 := spec_Live.mono_l k
 unfold spec_Live.f
 repeat' first
   | (with_reducible exact ih0 _ _ _ _)
   | (with_reducible exact spec_TableOk.mono _ _ _)
   | (with_reducible exact LeO.refl _)
   | (with_reducible exact LeO.none _)
   | (with_reducible refine LeO.ite ?_ ?_)
   | (with_reducible refine LeO.bind ?_ (fun _ => ?_))
   | exact ih0 _ _ _ _
   | exact spec_TableOk.mono _ _ _
   | exact LeO.none _
   | refine LeO.ite ?_ ?_
   | refine LeO.bind ?_ (fun _ => ?_)
set_option maxHeartbeats 8000000 in
set_option maxRecDepth 100000 in
theorem spec_Live.calls (k : Nat) (a0_0 : Int) (A0_1 : Option Addr) (c0_1 : Nat) (l0_1 : List (S40)) (r : List Int) (w : World) (hr0_1 : Kd.C k40 w A0_1 l0_1.length l0_1) (hc0_1 : l0_1.length ≤ c0_1) (h : spec_Live.f k a0_0 l0_1 = some r) :
  Calls Try.prog 62 #[.agg #[.int .i64 a0_0, .slice A0_1 l0_1.length c0_1]] w fun e w' => ∃ v0_ : Value, e = .returned (v0_) ∧ Kd.R (Kd.int .i64) 3 w' w.heap.size (fun _ => True) v0_ r ∧ Below w.heap.size w w' := by
 have hu28 := Try.underlying28
 have HR0_1 := Aside0.mk hr0_1; have HC0_1 := Aside0.mk hc0_1; clear hr0_1 hc0_1
 have HB := Aside0.mk (Below.refl w.heap.size w)
 have H : ((spec_TableOk.f k a0_0 l0_1).bind fun t338 => (if t338 = true then (spec_Live.l0 k ([] : List Int) 0 a0_0 l0_1) else (some ([] : List Int)))) = some r := h
 clear h; replace H := Option.bind_eq_some_iff.mp H; obtain ⟨t338, A20, H⟩ := H; have A2 := Aside0.mk A20; clear A20; go_enter Try.func62, Try.ntmps62
 replace H := Aside0.mk H
 go_wp2_with (first | ((with_reducible refine gate_dst (N := 1) rfl ?_); refine box_event ?hg (N := 1) ?hd (cs := #[.int .i64 a0_0, .slice A0_1 l0_1.length c0_1]) (t := 28) ?hr ?_; (case hd => rfl); (case hg => rfl); (case hr => first | (go_simp; done) | (go_simp; rfl)); intro gb337 hg w3 hbox hb; have n_ := an (below_step (by exact bel0) hb) (an (hbox) (an ((by rw [hg]; exact (below_size (by exact bel0)) : w.heap.size ≤ gb337)) (an ((by rw [hg]; exact (below_size (by exact bel0)) : w.heap.size ≤ gb337)) (trivial)))); clear HB; obtain ⟨HB, BK337, GW337, GE337, -⟩ := n_; clear hb hbox hg; obtain ⟨hcz4_0, hcz4_1⟩ := blkz2 BK337.out; have hfz4_0 := blkf BK337.out) | ((with_reducible refine gate_callee (f := 8) rfl ?_); refine goesL_ (some 6) rfl rfl Try.func8 (by kernel_rfl) rfl #[.agg #[.int .i64 a0_0, .slice A0_1 l0_1.length c0_1]] rfl (by (try simp only [List.map_toArray, List.map_cons, List.map_nil]); first | done | rfl | (simp only [List.length_drop, List.length_take]; rfl)) ?_; (with_reducible refine (spec_TableOk.calls k a0_0 _ _ l0_1 t338 _ ?side1 ?side2 A2.out).mono ?_); (case side1 => repeat (first | exact (Kd.C_below HR0_1.out HB.out) | (with_reducible refine Kd.C_alloc ?_ _) | (with_reducible refine Kd.C_drewN ?_ _) | (with_reducible refine Kd.C_drew ?_))); (case side2 => exact HC0_1.out); rintro e w5 ⟨rfl, hb⟩; refine ⟨_, rfl, ?_⟩; have n_ := an (blk_below (blk_nw BK337.out) hb) (an (below_step (by exact bel0) hb) (trivial)); clear BK337 HB; obtain ⟨BK337, HB, -⟩ := n_; (try clear hb); (try clear hb2); (try clear hk); (try clear hi); refine Stop.out ?_))
 refine Stop.mk ?_
 replace H := H.out
 by_cases c6 : t338 = true
 ·subst c6; rw [if_pos rfl] at H
  have H' := Aside0.mk H
  clear H
  go_wp2
  go_loopg [3, 4] k (fun kq v3 v4 w' => ∃ (x3_1 : List Int) (x4_1 : Int), v4 = .int .i64 x4_1 ∧ Aside0 (spec_Live.l0 kq x3_1 x4_1 a0_0 l0_1 = some r) ∧ Aside0 (kq ≤ k) ∧ Aside0 (Kd.R (Kd.int .i64) 3 w' w.heap.size (fun _ => True) v3 x3_1) ∧ Aside0 (w'.heap[gb337]? = some (.cells #[.int .i64 a0_0, (.slice A0_1 l0_1.length c0_1)] 28 (0, 0))) ∧ Aside0 (Below w.heap.size w w'))
  case atStart => exact ⟨(([] : List Int)), (0), (by first | rfl | (simp; done) | (simp [*]; done)), H', ⟨Nat.le_refl _⟩, ⟨by first | exact Kd.R_nil _ _ _ _ _ | exact Kd.N_nil _ _ _ _ _ | exact Kd.V_nil _ _ _ _ _ | exact Kd.Q_nil _ _ _ _ _ | exact Kd.S_nil _ _ _ _ _⟩, ⟨by exact blk_nw BK337.out⟩, ⟨by exact bel0⟩⟩
  case round =>
   clear H'
   try clear p2; try clear c6; try clear hcz4_0; try clear hcz4_1; try clear hfz4_0; try clear hfz4_1
   obtain ⟨x3_1, x4_1, rfl, HA, HK1, HO_3, BK337, HB⟩ := hrel
   cases gk with
   | zero => exact absurd HA.out (by simp [spec_Live.l0])
   | succ k1 =>
    have H := HA.out; clear HA
    simp only [spec_Live.l0] at H
    by_cases c7 : x4_1 < (l0_1.length : Int)
    ·rw [if_pos c7] at H
     have c7b0 : decide (x4_1 < (l0_1.length : Int)) = true := decide_eq_true c7
     clear c7; (try simp only [c7b0])
     by_cases c8 : 0 ≤ x4_1
     ·rw [if_pos c8] at H; have c8b0 : decide (0 ≤ x4_1) = true := decide_eq_true c8; clear c8; (try simp only [c8b0])
      by_cases c9 : ((rd_T40 l0_1 x4_1).f1) ≤ 1
      ·rw [if_pos c9] at H; have c9b0 : decide (((rd_T40 l0_1 x4_1).f1) ≤ 1) = true := decide_eq_true c9; clear c9; (try simp only [c9b0])
       by_cases c10 : x3_1.length < 17592186044416
       ·rw [if_pos c10] at H; have LMc10 := Aside0.mk c10; clear c10
        obtain ⟨y341, hy341⟩ : ∃ y_ : List Int, y_ = (x3_1 ++ [(rd_T40 l0_1 x4_1).f0]) := ⟨_, rfl⟩
        replace H : (spec_Live.l0 k1 y341 (wrap64 (x4_1 + 1)) a0_0 l0_1) = some r := by first | (rw [hy341]; with_reducible exact H) | (rw [hy341]; exact H) | exact H
        have Ny341 := Aside0.mk hy341; clear hy341
        have H' := Aside0.mk H
        clear H; obtain ⟨hcz11_0, hcz11_1⟩ := blkz2 BK337.out; have hfz11_0 := blkf BK337.out
        have p339 : 0 ≤ (x4_1 : Int) := of_decide_eq_true (by first | (with_reducible assumption) | assumption)
        have q339 : x4_1 < (l0_1.length : Int) := of_decide_eq_true (by first | (with_reducible assumption) | assumption)
        obtain ⟨ad339, e339, hx339_0, hx339_1, hx339_2⟩ := at_T40 HR0_1.out x4_1 p339 q339
        cases e339
        replace hx339_0 := (HB.out.cell (World.block_lt_of_cell? w _ hx339_0)).trans hx339_0
        replace hx339_1 := (HB.out.cell (World.block_lt_of_cell? w _ hx339_1)).trans hx339_1
        replace hx339_2 := (HB.out.cell (World.block_lt_of_cell? w _ hx339_2)).trans hx339_2
        replace p339 := eq_true p339
        replace q339 := eq_true q339
        have p340 : 0 ≤ (x4_1 : Int) := of_decide_eq_true (by first | (with_reducible assumption) | assumption)
        have q340 : x4_1 < (l0_1.length : Int) := of_decide_eq_true (by first | (with_reducible assumption) | assumption)
        obtain ⟨ad340, e340, hx340_0, hx340_1, hx340_2⟩ := at_T40 HR0_1.out x4_1 p340 q340
        obtain rfl : ad339 = ad340 := (by injection e340)
        replace hx340_0 := (HB.out.cell (World.block_lt_of_cell? w _ hx340_0)).trans hx340_0
        replace hx340_1 := (HB.out.cell (World.block_lt_of_cell? w _ hx340_1)).trans hx340_1
        replace hx340_2 := (HB.out.cell (World.block_lt_of_cell? w _ hx340_2)).trans hx340_2
        replace p340 := eq_true p340
        replace q340 := eq_true q340
        go_wp2_with (first | ((with_reducible refine gate_builtin (b := .append) (xs := #[.tmp 22, .tmp 29]) rfl ?_); at_builtin; refine Kd.R_append (Kd.int .i64) (w0 := w) w.heap.size rfl (.tmp 22) (.tmp 29) 23 3 (.int .i64 0) 8 rfl Try.underlying23 info3 rfl (by decide) (by omega) u3 x3_1 ((rd_T40 l0_1 x4_1).f0) [.int .i64 ((rd_T40 l0_1 x4_1).f0)] (fun _ => True) (fun _ => False) rfl rfl ?aP (fun _ hk => hk.elim) ?aF ?aO ?aB ?aS ?aL ?_; (case aP => exact rfl); (case aB => exact (by exact bel0)); (case aF => exact (fun _ _ => trivial)); (case aO => exact (by exact Kd.R_nw HO_3.out)); (case aS => exact (below_size (by exact bel0))); (case aL => have := LMc10.out; omega); intro v342 w12 ho hb hg hat; rw [← Ny341.out] at ho; have n_ := an (blk_grown (blk_nw BK337.out) hg (Kd.R_ne HO_3.out BK337.out (by decide))) (an (hb) (an (ho) (trivial))); clear BK337 HB HO_3; obtain ⟨BK337, HB, HO343, -⟩ := n_; clear ho hb hg hat))
        go_roundg k1
        case measure => have := HK1.out; omega
        case rel => exact ⟨(y341), (wrap64 (x4_1 + 1)), (by first | rfl | (simp; done) | (simp [*]; done)), H', ⟨by have := HK1.out; omega⟩, ⟨by exact Kd.R_nw HO343.out⟩, ⟨by exact blk_nw BK337.out⟩, ⟨by exact bel0⟩⟩
       ·rw [if_neg c10] at H
        exact absurd H (by simp)
      ·rw [if_neg c9] at H; have c9b0 : decide (((rd_T40 l0_1 x4_1).f1) ≤ 1) = false := decide_eq_false c9; clear c9; (try simp only [c9b0])
       have H' := Aside0.mk H
       clear H; obtain ⟨hcz13_0, hcz13_1⟩ := blkz2 BK337.out; have hfz13_0 := blkf BK337.out
       have p339 : 0 ≤ (x4_1 : Int) := of_decide_eq_true (by first | (with_reducible assumption) | assumption)
       have q339 : x4_1 < (l0_1.length : Int) := of_decide_eq_true (by first | (with_reducible assumption) | assumption)
       obtain ⟨ad339, e339, hx339_0, hx339_1, hx339_2⟩ := at_T40 HR0_1.out x4_1 p339 q339
       cases e339
       replace hx339_0 := (HB.out.cell (World.block_lt_of_cell? w _ hx339_0)).trans hx339_0
       replace hx339_1 := (HB.out.cell (World.block_lt_of_cell? w _ hx339_1)).trans hx339_1
       replace hx339_2 := (HB.out.cell (World.block_lt_of_cell? w _ hx339_2)).trans hx339_2
       replace p339 := eq_true p339
       replace q339 := eq_true q339
       go_wp2
       go_roundg k1
       case measure => have := HK1.out; omega
       case rel => exact ⟨(x3_1), (wrap64 (x4_1 + 1)), (by first | rfl | (simp; done) | (simp [*]; done)), H', ⟨by have := HK1.out; omega⟩, ⟨by exact Kd.R_nw HO_3.out⟩, ⟨by exact blk_nw BK337.out⟩, ⟨by exact bel0⟩⟩
     ·rw [if_neg c8] at H
      exact absurd H (by simp)
    ·rw [if_neg c7] at H
     have c7b0 : decide (x4_1 < (l0_1.length : Int)) = false := decide_eq_false c7
     clear c7; (try simp only [c7b0])
     obtain rfl := Option.some.inj H
     obtain ⟨hcz14_0, hcz14_1⟩ := blkz2 BK337.out; have hfz14_0 := blkf BK337.out
     go_wp2
     go_ret
     exact ⟨_, by first | rfl | (simp [errW_none, errW_some] <;> rfl) | (simp [*, errW_none, errW_some] <;> rfl), by exact Kd.R_nw HO_3.out, by exact bel0⟩
 ·replace c6 := Bool.eq_false_iff.mpr c6
  subst c6
  rw [if_neg (show ¬ (false = true) by decide)] at H
  obtain rfl := Option.some.inj H
  go_wp2
  go_ret
  exact ⟨_, by first | rfl | (simp [errW_none, errW_some] <;> rfl) | (simp [*, errW_none, errW_some] <;> rfl), by first | exact Kd.R_nil _ _ _ _ _ | exact Kd.N_nil _ _ _ _ _ | exact Kd.V_nil _ _ _ _ _ | exact Kd.Q_nil _ _ _ _ _ | exact Kd.S_nil _ _ _ _ _, by exact bel0⟩

/-! ### spec_l11others: function 57 -/
def spec_l11others.l0 : Nat → List Int → List Int → Int → Int → List (S40) → Option (List Int)
  | 0, _, _, _, _, _ => none
  | k + 1, x3, x4, x5, x345000, x345001 => if x5 < (x4.length : Int) then (if 0 ≤ x5 then (if (rd x4 x5) = x345000 then (spec_l11others.l0 k x3 x4 (wrap64 (x5 + 1)) x345000 x345001) else (if x3.length < 17592186044416 then (spec_l11others.l0 k (x3 ++ [rd x4 x5]) x4 (wrap64 (x5 + 1)) x345000 x345001) else (none))) else (none)) else (some x3)
def spec_l11others.f (k : Nat) (a0_0 : Int) (l0_1 : List (S40)) : Option (List Int) := (spec_Live.f k a0_0 l0_1).bind fun t345 => (spec_l11others.l0 k ([] : List Int) t345 0 a0_0 l0_1)
theorem spec_l11others.mono_l : ∀ k, (∀ y0 y1 y2 y3 y4, LeO (spec_l11others.l0 k y0 y1 y2 y3 y4) (spec_l11others.l0 (k + 1) y0 y1 y2 y3 y4))
 | 0 => fun _ _ _ _ _ r h => by simp [spec_l11others.l0] at h
 | k + 1 => by
  have ih0 := spec_l11others.mono_l k
  ·intro y0 y1 y2 y3 y4
   unfold spec_l11others.l0
   repeat' first
   | (with_reducible exact ih0 _ _ _ _ _)
   | (with_reducible exact spec_Live.mono _ _ _)
   | (with_reducible exact LeO.refl _)
   | (with_reducible exact LeO.none _)
   | (with_reducible refine LeO.ite ?_ ?_)
   | (with_reducible refine LeO.bind ?_ (fun _ => ?_))
   | exact ih0 _ _ _ _ _
   | exact spec_Live.mono _ _ _
   | exact LeO.none _
   | refine LeO.ite ?_ ?_
   | refine LeO.bind ?_ (fun _ => ?_)
theorem spec_l11others.mono : ∀ a0 a1 k, LeO (spec_l11others.f k a0 a1) (spec_l11others.f (k + 1) a0 a1) := by
 intro a0 a1 k
 have ih0 := spec_l11others.mono_l k
 unfold spec_l11others.f
 repeat' first
   | (with_reducible exact ih0 _ _ _ _ _)
   | (with_reducible exact spec_Live.mono _ _ _)
   | (with_reducible exact LeO.refl _)
   | (with_reducible exact LeO.none _)
   | (with_reducible refine LeO.ite ?_ ?_)
   | (with_reducible refine LeO.bind ?_ (fun _ => ?_))
   | exact ih0 _ _ _ _ _
   | exact spec_Live.mono _ _ _
   | exact LeO.none _
   | refine LeO.ite ?_ ?_
   | refine LeO.bind ?_ (fun _ => ?_)
set_option maxHeartbeats 8000000 in
set_option maxRecDepth 100000 in
theorem spec_l11others.calls (k : Nat) (a0_0 : Int) (A0_1 : Option Addr) (c0_1 : Nat) (l0_1 : List (S40)) (r : List Int) (w : World) (hr0_1 : Kd.C k40 w A0_1 l0_1.length l0_1) (hc0_1 : l0_1.length ≤ c0_1) (h : spec_l11others.f k a0_0 l0_1 = some r) :
  Calls Try.prog 57 #[.agg #[.int .i64 a0_0, .slice A0_1 l0_1.length c0_1]] w fun e w' => ∃ v0_ : Value, e = .returned (v0_) ∧ Kd.R (Kd.int .i64) 3 w' w.heap.size (fun _ => True) v0_ r ∧ Below w.heap.size w w' := by
 have hu28 := Try.underlying28
 have HR0_1 := Aside0.mk hr0_1; have HC0_1 := Aside0.mk hc0_1; clear hr0_1 hc0_1
 have HB := Aside0.mk (Below.refl w.heap.size w)
 have H : ((spec_Live.f k a0_0 l0_1).bind fun t345 => (spec_l11others.l0 k ([] : List Int) t345 0 a0_0 l0_1)) = some r := h
 clear h; replace H := Option.bind_eq_some_iff.mp H; obtain ⟨t345, A20, H⟩ := H; have A2 := Aside0.mk A20; clear A20
 have H' := Aside0.mk H
 clear H; go_enter Try.func57, Try.ntmps57
 iterate 4 (try (go_wp2_with (first | ((with_reducible refine gate_dst (N := 1) rfl ?_); refine box_event ?hg (N := 1) ?hd (cs := #[.int .i64 a0_0, .slice A0_1 l0_1.length c0_1]) (t := 28) ?hr ?_; (case hd => rfl); (case hg => rfl); (case hr => first | (go_simp; done) | (go_simp; rfl)); intro gb344 hg w3 hbox hb; have n_ := an (below_step (by exact bel0) hb) (an (hbox) (an ((by rw [hg]; exact (below_size (by exact bel0)) : w.heap.size ≤ gb344)) (an ((by rw [hg]; exact (below_size (by exact bel0)) : w.heap.size ≤ gb344)) (trivial)))); clear HB; obtain ⟨HB, BK344, GW344, GE344, -⟩ := n_; clear hb hbox hg; obtain ⟨hcz4_0, hcz4_1⟩ := blkz2 BK344.out; have hfz4_0 := blkf BK344.out) | (go_at_call 62; (with_reducible refine (spec_Live.calls k a0_0 _ _ l0_1 t345 _ ?side1 ?side2 A2.out).mono ?_); (case side1 => repeat (first | exact (Kd.C_below HR0_1.out HB.out) | (with_reducible refine Kd.C_alloc ?_ _) | (with_reducible refine Kd.C_drewN ?_ _) | (with_reducible refine Kd.C_drew ?_))); (case side2 => exact HC0_1.out); rintro e w5 ⟨v346, rfl, ho0, hb⟩; have n_ := an (Kd.R_lower ho0 (below_size (by exact bel0))) (an (blk_below (blk_nw BK344.out) hb) (an (below_step (by exact bel0) hb) (trivial))); clear BK344 HB; obtain ⟨HO347, BK344, HB, -⟩ := n_; (try clear hb); (try clear hb2); (try clear hk); (try clear hi); (try clear ho0))); try go_quiet (fail)))
 go_loopg [3, 5] k (fun kq v3 v5 w' => ∃ (x3_1 : List Int) (x5_1 : Int), v5 = .int .i64 x5_1 ∧ Aside0 (spec_l11others.l0 kq x3_1 t345 x5_1 a0_0 l0_1 = some r) ∧ Aside0 (kq ≤ k) ∧ Aside0 (Kd.R (Kd.int .i64) 3 w' w.heap.size (fun k_ => some k_ ≠ (v346 : Value).ownBlock) v3 x3_1) ∧ Aside0 (Kd.R (Kd.int .i64) 3 w' w.heap.size (fun k_ => some k_ ≠ (v3 : Value).ownBlock) v346 t345) ∧ Aside0 (w'.heap[gb344]? = some (.cells #[.int .i64 a0_0, (.slice A0_1 l0_1.length c0_1)] 28 (0, 0))) ∧ Aside0 (Below w.heap.size w w'))
 case atStart => exact ⟨(([] : List Int)), (0), (by first | rfl | (simp; done) | (simp [*]; done)), H', ⟨Nat.le_refl _⟩, ⟨by first | exact Kd.R_nil _ _ _ _ _ | exact Kd.N_nil _ _ _ _ _ | exact Kd.V_nil _ _ _ _ _ | exact Kd.Q_nil _ _ _ _ _ | exact Kd.S_nil _ _ _ _ _⟩, ⟨by exact Kd.R_nw (Kd.R_mono HO347.out (fun _ hk => (by simp [Value.ownBlock])))⟩, ⟨by exact blk_nw BK344.out⟩, ⟨by exact bel0⟩⟩
 case round =>
  clear H'
  try clear p2; try clear c5; try clear hcz4_0; try clear hcz4_1; try clear hfz4_0; try clear hfz4_1
  obtain ⟨x3_1, x5_1, rfl, HA, HK1, HO_3, HO_4, BK344, HB⟩ := hrel
  cases gk with
  | zero => exact absurd HA.out (by simp [spec_l11others.l0])
  | succ k1 =>
   have H := HA.out; clear HA
   simp only [spec_l11others.l0] at H
   by_cases c6 : x5_1 < (t345.length : Int)
   ·rw [if_pos c6] at H
    have c6b0 : decide (x5_1 < (t345.length : Int)) = true := decide_eq_true c6
    clear c6; (try simp only [c6b0])
    by_cases c7 : 0 ≤ x5_1
    ·rw [if_pos c7] at H; have c7b0 : decide (0 ≤ x5_1) = true := decide_eq_true c7; clear c7; (try simp only [c7b0])
     by_cases c8 : (rd t345 x5_1) = a0_0
     ·rw [if_pos c8] at H; have c8b0 : ((rd t345 x5_1) == a0_0) = true := beq_iff_eq.mpr c8; have c8b1 : ((rd t345 x5_1) != a0_0) = false := bne_eq_false_iff_eq.mpr c8; clear c8
      have H' := Aside0.mk H
      clear H
      obtain ⟨Ao9, co9, eo9⟩ := Kd.R_slice HO_4.out
      subst eo9
      have p348 : 0 ≤ (x5_1 : Int) := of_decide_eq_true (by first | (with_reducible assumption) | assumption)
      have q348 : x5_1 < (t345.length : Int) := of_decide_eq_true (by first | (with_reducible assumption) | assumption)
      obtain ⟨ad348, e348, hx348_0⟩ := Kd.at_int (Kd.R_reads' HO_4.out).2.2 x5_1 p348 q348
      cases e348
      replace p348 := eq_true p348
      replace q348 := eq_true q348
      obtain ⟨hcz10_0, hcz10_1⟩ := blkz2 BK344.out; have hfz10_0 := blkf BK344.out
      go_wp2
      repeat (go_quiet (fail); try go_wp2)
      go_roundg k1
      case measure => have := HK1.out; omega
      case rel => exact ⟨(x3_1), (wrap64 (x5_1 + 1)), (by first | rfl | (simp; done) | (simp [*]; done)), H', ⟨by have := HK1.out; omega⟩, ⟨by exact Kd.R_nw HO_3.out⟩, ⟨by exact Kd.R_nw HO_4.out⟩, ⟨by exact blk_nw BK344.out⟩, ⟨by exact bel0⟩⟩
     ·rw [if_neg c8] at H; have c8b0 : ((rd t345 x5_1) == a0_0) = false := beq_eq_false_iff_ne.mpr c8; have c8b1 : ((rd t345 x5_1) != a0_0) = true := bne_iff_ne.mpr c8
      by_cases c11 : x3_1.length < 17592186044416
      ·rw [if_pos c11] at H; have LMc11 := Aside0.mk c11; clear c11
       obtain ⟨y350, hy350⟩ : ∃ y_ : List Int, y_ = (x3_1 ++ [rd t345 x5_1]) := ⟨_, rfl⟩
       replace H : (spec_l11others.l0 k1 y350 t345 (wrap64 (x5_1 + 1)) a0_0 l0_1) = some r := by first | (rw [hy350]; with_reducible exact H) | (rw [hy350]; exact H) | exact H
       have Ny350 := Aside0.mk hy350; clear hy350
       have H' := Aside0.mk H
       clear H
       obtain ⟨Ao12, co12, eo12⟩ := Kd.R_slice HO_4.out
       subst eo12
       have p348 : 0 ≤ (x5_1 : Int) := of_decide_eq_true (by first | (with_reducible assumption) | assumption)
       have q348 : x5_1 < (t345.length : Int) := of_decide_eq_true (by first | (with_reducible assumption) | assumption)
       obtain ⟨ad348, e348, hx348_0⟩ := Kd.at_int (Kd.R_reads' HO_4.out).2.2 x5_1 p348 q348
       cases e348
       replace p348 := eq_true p348
       replace q348 := eq_true q348
       obtain ⟨hcz13_0, hcz13_1⟩ := blkz2 BK344.out; have hfz13_0 := blkf BK344.out
       have p349 : 0 ≤ (x5_1 : Int) := of_decide_eq_true (by first | (with_reducible assumption) | assumption)
       have q349 : x5_1 < (t345.length : Int) := of_decide_eq_true (by first | (with_reducible assumption) | assumption)
       obtain ⟨ad349, e349, hx349_0⟩ := Kd.at_int (Kd.R_reads' HO_4.out).2.2 x5_1 p349 q349
       obtain rfl : ad348 = ad349 := (by injection e349)
       replace p349 := eq_true p349
       replace q349 := eq_true q349
       iterate 4 (try (go_wp2_with (first | ((with_reducible refine gate_builtin (b := .append) (xs := #[.tmp 21, .tmp 26]) rfl ?_); at_builtin; refine Kd.R_append (Kd.int .i64) (w0 := w) w.heap.size rfl (.tmp 21) (.tmp 26) 23 3 (.int .i64 0) 8 rfl Try.underlying23 info3 rfl (by decide) (by omega) u3 x3_1 (rd t345 x5_1) [.int .i64 (rd t345 x5_1)] (fun k_ => some k_ ≠ (.slice (some ad348) t345.length co12 : Value).ownBlock) (fun _ => False) rfl rfl ?aP (fun _ hk => hk.elim) ?aF ?aO ?aB ?aS ?aL ?_; (case aP => exact rfl); (case aB => exact (by exact bel0)); (case aF => exact (fun k_ hk => Kd.fresh' (Kd.R_lt (by exact Kd.R_nw HO_4.out)) k_ hk)); (case aO => exact (by exact Kd.R_nw HO_3.out)); (case aS => exact (below_size (by exact bel0))); (case aL => have := LMc11.out; omega); intro v351 w14 ho hb hg hat; rw [← Ny350.out] at ho; have n_ := an (Kd.R_after (ok := (fun _ => True)) (by exact Kd.R_nw (Kd.R_mono HO_4.out (fun _ hk => ⟨trivial, hk⟩))) hg hat) (an (blk_grown (blk_nw BK344.out) hg (Kd.R_ne HO_3.out BK344.out (by decide))) (an (hb) (an (ho) (trivial)))); clear HO_4 BK344 HB HO_3; obtain ⟨HO_4, BK344, HB, HO352, -⟩ := n_; clear ho hb hg hat)); try go_quiet (fail)))
       go_roundg k1
       case measure => have := HK1.out; omega
       case rel => exact ⟨(y350), (wrap64 (x5_1 + 1)), (by first | rfl | (simp; done) | (simp [*]; done)), H', ⟨by have := HK1.out; omega⟩, ⟨by exact Kd.R_nw HO352.out⟩, ⟨by exact Kd.R_nw (Kd.R_mono HO_4.out (fun _ hk => hk.2))⟩, ⟨by exact blk_nw BK344.out⟩, ⟨by exact bel0⟩⟩
      ·rw [if_neg c11] at H
       exact absurd H (by simp)
    ·rw [if_neg c7] at H
     exact absurd H (by simp)
   ·rw [if_neg c6] at H
    have c6b0 : decide (x5_1 < (t345.length : Int)) = false := decide_eq_false c6
    clear c6; (try simp only [c6b0])
    obtain rfl := Option.some.inj H
    obtain ⟨Ao15, co15, eo15⟩ := Kd.R_slice HO_4.out
    subst eo15
    go_wp2
    repeat (go_quiet (fail); try go_wp2)
    go_ret
    exact ⟨_, by first | rfl | (simp [errW_none, errW_some] <;> rfl) | (simp [*, errW_none, errW_some] <;> rfl), by exact Kd.R_nw (Kd.R_mono HO_3.out (fun _ hk => trivial)), by exact bel0⟩

/-! ### spec_l11has: function 58 -/
def spec_l11has.l0 : Nat → List Int → Int → Int → Option (Bool)
  | 0, _, _, _ => none
  | k + 1, x0, x1, x5 => if x5 < (x0.length : Int) then (if 0 ≤ x5 then (if (rd x0 x5) = x1 then (some true) else (spec_l11has.l0 k x0 x1 (wrap64 (x5 + 1)))) else (none)) else (some false)
def spec_l11has.f (k : Nat) (l0 : List Int) (a1 : Int) : Option (Bool) := spec_l11has.l0 k l0 a1 0
theorem spec_l11has.mono_l : ∀ k, (∀ y0 y1 y2, LeO (spec_l11has.l0 k y0 y1 y2) (spec_l11has.l0 (k + 1) y0 y1 y2))
 | 0 => fun _ _ _ r h => by simp [spec_l11has.l0] at h
 | k + 1 => by
  have ih0 := spec_l11has.mono_l k
  ·intro y0 y1 y2
   unfold spec_l11has.l0
   repeat' first
   | (with_reducible exact ih0 _ _ _)
   | (with_reducible exact LeO.refl _)
   | (with_reducible exact LeO.none _)
   | (with_reducible refine LeO.ite ?_ ?_)
   | (with_reducible refine LeO.bind ?_ (fun _ => ?_))
   | exact ih0 _ _ _
   | exact LeO.none _
   | refine LeO.ite ?_ ?_
   | refine LeO.bind ?_ (fun _ => ?_)
theorem spec_l11has.mono : ∀ a0 a1 k, LeO (spec_l11has.f k a0 a1) (spec_l11has.f (k + 1) a0 a1) := by
 intro a0 a1 k
 have ih0 := spec_l11has.mono_l k
 unfold spec_l11has.f
 repeat' first
   | (with_reducible exact ih0 _ _ _)
   | (with_reducible exact LeO.refl _)
   | (with_reducible exact LeO.none _)
   | (with_reducible refine LeO.ite ?_ ?_)
   | (with_reducible refine LeO.bind ?_ (fun _ => ?_))
   | exact ih0 _ _ _
   | exact LeO.none _
   | refine LeO.ite ?_ ?_
   | refine LeO.bind ?_ (fun _ => ?_)
set_option maxHeartbeats 8000000 in
set_option maxRecDepth 100000 in
theorem spec_l11has.calls (k : Nat) (A0 : Option Addr) (c0 : Nat) (l0 : List Int) (a1 : Int) (r : Bool) (w : World) (hr0 : Kd.C (Kd.int .i64) w A0 l0.length l0) (hc0 : l0.length ≤ c0) (h : spec_l11has.f k l0 a1 = some r) :
  Calls Try.prog 58 #[.slice A0 l0.length c0, .int .i64 a1] w fun e w' => e = .returned (.bool r) ∧ Drawn0 w w' := by
 have HR0 := Aside0.mk hr0; have HC0 := Aside0.mk hc0; clear hr0 hc0
 have H : (spec_l11has.l0 k l0 a1 0) = some r := h
 clear h
 have H' := Aside0.mk H
 clear H; go_enter Try.func58, Try.ntmps58
 go_wp2
 go_loopg [5] k (fun kq v5 w' => ∃ (x5_1 : Int), v5 = .int .i64 x5_1 ∧ Aside0 (spec_l11has.l0 kq l0 a1 x5_1 = some r) ∧ Aside0 (kq ≤ k) ∧ Drawn0 w w')
 case atStart => exact ⟨(0), (by first | rfl | (simp; done) | (simp [*]; done)), H', ⟨Nat.le_refl _⟩, by repeat (first | exact Drawn0.refl _ | apply Drawn0.step)⟩
 case round =>
  clear H'
  try clear p2
  obtain ⟨x5_1, rfl, HA, HK1, ⟨m1, rfl⟩⟩ := hrel
  cases gk with
  | zero => exact absurd HA.out (by simp [spec_l11has.l0])
  | succ k1 =>
   have H := HA.out; clear HA
   simp only [spec_l11has.l0] at H
   by_cases c3 : x5_1 < (l0.length : Int)
   ·rw [if_pos c3] at H
    have c3b0 : decide (x5_1 < (l0.length : Int)) = true := decide_eq_true c3
    clear c3; (try simp only [c3b0])
    by_cases c4 : 0 ≤ x5_1
    ·rw [if_pos c4] at H; have c4b0 : decide (0 ≤ x5_1) = true := decide_eq_true c4; clear c4; (try simp only [c4b0])
     by_cases c5 : (rd l0 x5_1) = a1
     ·rw [if_pos c5] at H; have c5b0 : ((rd l0 x5_1) == a1) = true := beq_iff_eq.mpr c5; have c5b1 : ((rd l0 x5_1) != a1) = false := bne_eq_false_iff_eq.mpr c5; clear c5
      obtain rfl := Option.some.inj H
      have p353 : 0 ≤ (x5_1 : Int) := of_decide_eq_true (by first | (with_reducible assumption) | assumption)
      have q353 : x5_1 < (l0.length : Int) := of_decide_eq_true (by first | (with_reducible assumption) | assumption)
      obtain ⟨ad353, e353, hx353_0⟩ := Kd.at_int HR0.out x5_1 p353 q353
      cases e353
      replace p353 := eq_true p353
      replace q353 := eq_true q353
      go_wp2
      go_ret
      exact ⟨by first | rfl | (simp; done) | (simp [*]; done), by repeat (first | exact Drawn0.refl _ | apply Drawn0.step)⟩
     ·rw [if_neg c5] at H; have c5b0 : ((rd l0 x5_1) == a1) = false := beq_eq_false_iff_ne.mpr c5; have c5b1 : ((rd l0 x5_1) != a1) = true := bne_iff_ne.mpr c5
      have H' := Aside0.mk H
      clear H
      have p353 : 0 ≤ (x5_1 : Int) := of_decide_eq_true (by first | (with_reducible assumption) | assumption)
      have q353 : x5_1 < (l0.length : Int) := of_decide_eq_true (by first | (with_reducible assumption) | assumption)
      obtain ⟨ad353, e353, hx353_0⟩ := Kd.at_int HR0.out x5_1 p353 q353
      cases e353
      replace p353 := eq_true p353
      replace q353 := eq_true q353
      go_wp2
      go_roundg k1
      case measure => have := HK1.out; omega
      case rel => exact ⟨(wrap64 (x5_1 + 1)), (by first | rfl | (simp; done) | (simp [*]; done)), H', ⟨by have := HK1.out; omega⟩, by repeat (first | exact Drawn0.refl _ | apply Drawn0.step)⟩
    ·rw [if_neg c4] at H
     exact absurd H (by simp)
   ·rw [if_neg c3] at H
    have c3b0 : decide (x5_1 < (l0.length : Int)) = false := decide_eq_false c3
    clear c3; (try simp only [c3b0])
    obtain rfl := Option.some.inj H
    go_wp2
    go_ret
    exact ⟨by first | rfl | (simp; done) | (simp [*]; done), by repeat (first | exact Drawn0.refl _ | apply Drawn0.step)⟩

/-! ### spec_Mix: function 63 -/
def spec_Mix.f (a0 : Int) : Option (Int) := if a0 < 0 then (some 0) else (if a0 > 2147483647 then (some 0) else (some (Int.tmod (wrap64 ((wrap64 (a0 * 16807)) + 11)) 2147483647)))
set_option maxHeartbeats 8000000 in
set_option maxRecDepth 100000 in
theorem spec_Mix.calls (a0 : Int) (r : Int) (w : World) (h : spec_Mix.f a0 = some r) :
  Calls Try.prog 63 #[.int .i64 a0] w fun e w' => e = .returned (.int .i64 r) ∧ Drawn0 w w' := by
 have H : (if a0 < 0 then (some 0) else (if a0 > 2147483647 then (some 0) else (some (Int.tmod (wrap64 ((wrap64 (a0 * 16807)) + 11)) 2147483647)))) = some r := h
 clear h
 by_cases c2 : a0 < 0
 ·rw [if_pos c2] at H; have c2b0 : decide (a0 < 0) = true := decide_eq_true c2; clear c2; (try simp only [c2b0])
  obtain rfl := Option.some.inj H
  go_enter Try.func63, Try.ntmps63
  go_wp2
  go_ret
  exact ⟨by first | rfl | (simp; done) | (simp [*]; done), by repeat (first | exact Drawn0.refl _ | apply Drawn0.step)⟩
 ·rw [if_neg c2] at H; have c2b0 : decide (a0 < 0) = false := decide_eq_false c2; clear c2; (try simp only [c2b0])
  by_cases c3 : a0 > 2147483647
  ·rw [if_pos c3] at H; have c3b0 : decide (2147483647 < a0) = true := decide_eq_true c3; clear c3; (try simp only [c3b0])
   obtain rfl := Option.some.inj H
   go_enter Try.func63, Try.ntmps63
   go_wp2
   go_ret
   exact ⟨by first | rfl | (simp; done) | (simp [*]; done), by repeat (first | exact Drawn0.refl _ | apply Drawn0.step)⟩
  ·rw [if_neg c3] at H; have c3b0 : decide (2147483647 < a0) = false := decide_eq_false c3; clear c3; (try simp only [c3b0])
   obtain rfl := Option.some.inj H
   go_enter Try.func63, Try.ntmps63
   go_wp2
   go_ret
   exact ⟨by first | rfl | (simp; done) | (simp [*]; done), by repeat (first | exact Drawn0.refl _ | apply Drawn0.step)⟩

end Go.Proofs.Ytpoedoefbeabkaa.XFnRounds
