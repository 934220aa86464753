-- Written by this session's own program (xprint.py) over the kit's print.
import Derived.Test.YtgkoinnjpcpccaaXFnChecksx0
import Derived.Test.YtgkoinnjpcpccaaXFnChecksx2
namespace Go.Proofs.Ytgkoinnjpcpccaa.XFnChecks
open Go.RowKit Go.Proofs.YtgkoinnjpcpccaaW.PrintWords Go.Proofs.YtgkoinnjpcpccaaW.PrintLast Go.Proofs.YtgkoinnjpcpccaaW.PrintMore
attribute [local go_sem] max2_int min2_int max_two min_two max_three min_three max_four min_four   -- for this text's walks alone
set_option linter.unusedVariables false
set_option linter.unusedSimpArgs false

/-! ### spec_CheckPass: function 27 -/
def spec_CheckPass.f (k : Nat) (l0_0 : List Int) (a0_1 : Int) (a0_2 : Int) (a0_3 : Int) (a0_4 : Int) (a0_5 : Int) : Option (List Int × Int × Int × Int × Int × Int × Bool) := (spec_CheckOk.f k l0_0 a0_1 a0_2 a0_3 a0_4 a0_5).bind fun t159 => (if t159 = true then ((spec_l13own.f l0_0 a0_1 a0_2 a0_3 a0_4 a0_5).bind fun bt160 => (some (bt160.1, bt160.2.1, bt160.2.2.1, 0, 0, 0, (a0_3 != 0)))) else (some (([] : List Int), 0, 0, 0, 0, 0, false)))
theorem spec_CheckPass.mono : ∀ a0 a1 a2 a3 a4 a5 k, LeO (spec_CheckPass.f k a0 a1 a2 a3 a4 a5) (spec_CheckPass.f (k + 1) a0 a1 a2 a3 a4 a5) := by
 intro a0 a1 a2 a3 a4 a5 k
 unfold spec_CheckPass.f
 repeat' first
   | (with_reducible exact spec_CheckOk.mono _ _ _ _ _ _ _)
   | (with_reducible exact LeO.refl _)
   | (with_reducible exact LeO.none _)
   | (with_reducible refine LeO.ite ?_ ?_)
   | (with_reducible refine LeO.bind ?_ (fun _ => ?_))
   | exact spec_CheckOk.mono _ _ _ _ _ _ _
   | exact LeO.none _
   | refine LeO.ite ?_ ?_
   | refine LeO.bind ?_ (fun _ => ?_)
set_option maxHeartbeats 8000000 in
set_option maxRecDepth 100000 in
theorem spec_CheckPass.calls (k : Nat) (A0_0 : Option Addr) (c0_0 : Nat) (l0_0 : List Int) (a0_1 : Int) (a0_2 : Int) (a0_3 : Int) (a0_4 : Int) (a0_5 : Int) (r1 : List Int) (r2 : Int) (r3 : Int) (r4 : Int) (r5 : Int) (r6 : Int) (r7 : Bool) (w : World) (hr0_0 : Kd.C (Kd.int .u8) w A0_0 l0_0.length l0_0) (hc0_0 : l0_0.length ≤ c0_0) (h : spec_CheckPass.f k l0_0 a0_1 a0_2 a0_3 a0_4 a0_5 = some (r1, r2, r3, r4, r5, r6, r7)) :
  Calls Try.prog 27 #[.agg #[.slice A0_0 l0_0.length c0_0, .int .i64 a0_1, .int .i64 a0_2, .int .i64 a0_3, .int .i64 a0_4, .int .i64 a0_5]] w fun e w' => ∃ v0_ : Value, e = .returned (.tuple #[.agg #[v0_, .int .i64 r2, .int .i64 r3, .int .i64 r4, .int .i64 r5, .int .i64 r6], .bool r7]) ∧ Kd.R (Kd.int .u8) 5 w' w.heap.size (fun _ => True) v0_ r1 ∧ Below w.heap.size w w' := by
 have hu24 := Try.underlying24
 have HR0_0 := Aside0.mk hr0_0; have HC0_0 := Aside0.mk hc0_0; clear hr0_0 hc0_0
 have HB := Aside0.mk (Below.refl w.heap.size w)
 have H : ((spec_CheckOk.f k l0_0 a0_1 a0_2 a0_3 a0_4 a0_5).bind fun t159 => (if t159 = true then ((spec_l13own.f l0_0 a0_1 a0_2 a0_3 a0_4 a0_5).bind fun bt160 => (some (bt160.1, bt160.2.1, bt160.2.2.1, 0, 0, 0, (a0_3 != 0)))) else (some (([] : List Int), 0, 0, 0, 0, 0, false)))) = some (r1, r2, r3, r4, r5, r6, r7) := h
 clear h; replace H := Option.bind_eq_some_iff.mp H; obtain ⟨t159, A20, H⟩ := H; have A2 := Aside0.mk A20; clear A20; go_enter Try.func27, Try.ntmps27
 replace H := Aside0.mk H
 go_wp2_with (first | ((with_reducible refine gate_dst (N := 1) rfl ?_); refine box_event ?hg (N := 1) ?hd (cs := #[.slice A0_0 l0_0.length c0_0, .int .i64 a0_1, .int .i64 a0_2, .int .i64 a0_3, .int .i64 a0_4, .int .i64 a0_5]) (t := 24) ?hr ?_; (case hd => rfl); (case hg => rfl); (case hr => first | (go_simp; done) | (go_simp; rfl)); intro gb157 hg w3 hbox hb; have n_ := an (below_step (by exact bel0) hb) (an (hbox) (an ((by rw [hg]; exact (below_size (by exact bel0)) : w.heap.size ≤ gb157)) (an ((by rw [hg]; exact (below_size (by exact bel0)) : w.heap.size ≤ gb157)) (trivial)))); clear HB; obtain ⟨HB, BK157, GW157, GE157, -⟩ := n_; clear hb hbox hg) | ((with_reducible refine gate_dst (N := 2) rfl ?_); refine box_event ?hg (N := 2) ?hd (cs := #[.slice none 0 0, .int .i64 0, .int .i64 0, .int .i64 0, .int .i64 0, .int .i64 0]) (t := 24) ?hr ?_; (case hd => rfl); (case hg => rfl); (case hr => first | (go_simp; done) | (go_simp; rfl)); intro gb158 hg w4 hbox hb; have n_ := an (blk_below (blk_nw BK157.out) hb) (an (below_step (by exact bel0) hb) (an (hbox) (an ((by rw [hg]; exact (below_size (by exact bel0)) : w.heap.size ≤ gb158)) (an ((by rw [hg]; exact (below_size (by exact bel0)) : w.heap.size ≤ gb158)) (an ((by rw [hg]; exact Nat.ne_of_lt (blk_lt (blk_nw BK157.out)) : gb157 ≠ gb158)) (an ((by rw [hg]; exact Nat.ne_of_gt (blk_lt (blk_nw BK157.out)) : gb158 ≠ gb157)) (trivial))))))); clear BK157 HB; obtain ⟨BK157, HB, BK158, GW158, GE158, NB157_158, NB158_157, -⟩ := n_; clear hb hbox hg; have hnb5 := NB157_158.out; have hnc5 := NB158_157.out; obtain ⟨hcz6_0, hcz6_1, hcz6_2, hcz6_3, hcz6_4, hcz6_5⟩ := blkz6 BK157.out; have hfz6_0 := blkf BK157.out) | ((with_reducible refine gate_callee (f := 6) rfl ?_); refine goesL_ (some 6) rfl rfl Try.func6 (by kernel_rfl) rfl #[.agg #[.slice A0_0 l0_0.length c0_0, .int .i64 a0_1, .int .i64 a0_2, .int .i64 a0_3, .int .i64 a0_4, .int .i64 a0_5]] rfl (by (try simp only [List.map_toArray, List.map_cons, List.map_nil]); first | done | rfl | (simp only [List.length_drop, List.length_take]; rfl)) ?_; (with_reducible refine (spec_CheckOk.calls k _ _ l0_0 a0_1 a0_2 a0_3 a0_4 a0_5 t159 _ ?side1 ?side2 A2.out).mono ?_); (case side1 => repeat (first | exact (Kd.C_below HR0_0.out HB.out) | (with_reducible refine Kd.C_alloc ?_ _) | (with_reducible refine Kd.C_drewN ?_ _) | (with_reducible refine Kd.C_drew ?_))); (case side2 => exact HC0_0.out); rintro e w7 ⟨rfl, hb⟩; refine ⟨_, rfl, ?_⟩; have n_ := an (blk_below (blk_nw BK157.out) hb) (an (blk_below (blk_nw BK158.out) hb) (an (below_step (by exact bel0) hb) (trivial))); clear BK157 BK158 HB; obtain ⟨BK157, BK158, HB, -⟩ := n_; (try clear hb); (try clear hb2); (try clear hk); (try clear hi); refine Stop.out ?_))
 refine Stop.mk ?_
 replace H := H.out
 by_cases c8 : t159 = true
 ·subst c8; rw [if_pos rfl] at H; replace H := Option.bind_eq_some_iff.mp H
  obtain ⟨⟨t160, t163, t164, t165, t166, t167⟩, A90, H⟩ := H
  replace H : (some (t160, t163, t164, 0, 0, 0, (a0_3 != 0))) = some (r1, r2, r3, r4, r5, r6, r7) := H
  have A9 := Aside0.mk A90; clear A90; simp only [Option.some.injEq, Prod.mk.injEq] at H; obtain ⟨rfl, rfl, rfl, rfl, rfl, rfl, rfl⟩ := H; have hnb10 := NB157_158.out; have hnc10 := NB158_157.out; obtain ⟨hcz11_0, hcz11_1, hcz11_2, hcz11_3, hcz11_4, hcz11_5⟩ := blkz6 BK157.out; have hfz11_0 := blkf BK157.out
  try go_wp2_with (first | ((with_reducible refine gate_callee (f := 31) rfl ?_); refine goesL_ (some 12) rfl rfl Try.func31 (by kernel_rfl) rfl #[.agg #[.slice A0_0 l0_0.length c0_0, .int .i64 a0_1, .int .i64 a0_2, .int .i64 a0_3, .int .i64 a0_4, .int .i64 a0_5]] rfl (by (try simp only [List.map_toArray, List.map_cons, List.map_nil]); first | done | rfl | (simp only [List.length_drop, List.length_take]; rfl)) ?_; (with_reducible refine (spec_l13own.calls _ _ l0_0 a0_1 a0_2 a0_3 a0_4 a0_5 t160 t163 t164 t165 t166 t167 _ ?side1 ?side2 A9.out).mono ?_); (case side1 => repeat (first | exact (Kd.C_below HR0_0.out HB.out) | (with_reducible refine Kd.C_alloc ?_ _) | (with_reducible refine Kd.C_drewN ?_ _) | (with_reducible refine Kd.C_drew ?_))); (case side2 => exact HC0_0.out); rintro e w12 ⟨v161, rfl, ho0, hb⟩; refine ⟨_, rfl, ?_⟩; have n_ := an (Kd.R_lower ho0 (below_size (by exact bel0))) (an (blk_below (blk_nw BK157.out) hb) (an (blk_below (blk_nw BK158.out) hb) (an (below_step (by exact bel0) hb) (trivial)))); clear BK157 BK158 HB; obtain ⟨HO162, BK157, BK158, HB, -⟩ := n_; (try clear hb); (try clear hb2); (try clear hk); (try clear hi); (try clear ho0); obtain ⟨Ao13, co13, eo13⟩ := Kd.R_slice HO162.out; subst eo13; obtain ⟨hcz14_0, hcz14_1, hcz14_2, hcz14_3, hcz14_4, hcz14_5⟩ := blkz6 BK157.out; have hfz14_0 := blkf BK157.out))
  have n0_ : Aside0 (Kd.R (Kd.int .u8) 5 (((((((((w12.setCell ⟨gb157, 0, none⟩ (.slice Ao13 t160.length co13)).setCell ⟨gb157, 1, none⟩ (.int .i64 t163)).setCell ⟨gb157, 2, none⟩ (.int .i64 t164)).setCell ⟨gb157, 3, none⟩ (.int .i64 t165)).setCell ⟨gb157, 4, none⟩ (.int .i64 t166)).setCell ⟨gb157, 5, none⟩ (.int .i64 t167)).setCell ⟨gb157, 3, none⟩ (.int .i64 0)).setCell ⟨gb157, 4, none⟩ (.int .i64 0)).setCell ⟨gb157, 5, none⟩ (.int .i64 0)) w.heap.size (fun _ => True) (.slice Ao13 t160.length co13) t160) := ⟨by exact (Kd.R_farN HO162.out BK157.out)⟩
  have n1_ : Aside0 ((((((((((w12.setCell ⟨gb157, 0, none⟩ (.slice Ao13 t160.length co13)).setCell ⟨gb157, 1, none⟩ (.int .i64 t163)).setCell ⟨gb157, 2, none⟩ (.int .i64 t164)).setCell ⟨gb157, 3, none⟩ (.int .i64 t165)).setCell ⟨gb157, 4, none⟩ (.int .i64 t166)).setCell ⟨gb157, 5, none⟩ (.int .i64 t167)).setCell ⟨gb157, 3, none⟩ (.int .i64 0)).setCell ⟨gb157, 4, none⟩ (.int .i64 0)).setCell ⟨gb157, 5, none⟩ (.int .i64 0)).heap[gb157]? = some (.cells #[.slice Ao13 t160.length co13, .int .i64 t163, .int .i64 t164, .int .i64 0, .int .i64 0, .int .i64 0] 24 (0, 0))) := ⟨by (with_reducible repeat (first | refine blk_drewN ?_ _ | refine blk_drew ?_ | refine blk_alloc ?_ _)); refine blk_put (cs := #[.slice Ao13 t160.length co13, .int .i64 t163, .int .i64 t164, .int .i64 0, .int .i64 0, .int .i64 t167]) ?_ 5 _ rfl; (with_reducible repeat (first | refine blk_drewN ?_ _ | refine blk_drew ?_ | refine blk_alloc ?_ _)); refine blk_put (cs := #[.slice Ao13 t160.length co13, .int .i64 t163, .int .i64 t164, .int .i64 0, .int .i64 t166, .int .i64 t167]) ?_ 4 _ rfl; (with_reducible repeat (first | refine blk_drewN ?_ _ | refine blk_drew ?_ | refine blk_alloc ?_ _)); refine blk_put (cs := #[.slice Ao13 t160.length co13, .int .i64 t163, .int .i64 t164, .int .i64 t165, .int .i64 t166, .int .i64 t167]) ?_ 3 _ rfl; (with_reducible repeat (first | refine blk_drewN ?_ _ | refine blk_drew ?_ | refine blk_alloc ?_ _)); refine blk_put (cs := #[.slice Ao13 t160.length co13, .int .i64 t163, .int .i64 t164, .int .i64 t165, .int .i64 t166, .int .i64 a0_5]) ?_ 5 _ rfl; (with_reducible repeat (first | refine blk_drewN ?_ _ | refine blk_drew ?_ | refine blk_alloc ?_ _)); refine blk_put (cs := #[.slice Ao13 t160.length co13, .int .i64 t163, .int .i64 t164, .int .i64 t165, .int .i64 a0_4, .int .i64 a0_5]) ?_ 4 _ rfl; (with_reducible repeat (first | refine blk_drewN ?_ _ | refine blk_drew ?_ | refine blk_alloc ?_ _)); refine blk_put (cs := #[.slice Ao13 t160.length co13, .int .i64 t163, .int .i64 t164, .int .i64 a0_3, .int .i64 a0_4, .int .i64 a0_5]) ?_ 3 _ rfl; (with_reducible repeat (first | refine blk_drewN ?_ _ | refine blk_drew ?_ | refine blk_alloc ?_ _)); refine blk_put (cs := #[.slice Ao13 t160.length co13, .int .i64 t163, .int .i64 a0_2, .int .i64 a0_3, .int .i64 a0_4, .int .i64 a0_5]) ?_ 2 _ rfl; (with_reducible repeat (first | refine blk_drewN ?_ _ | refine blk_drew ?_ | refine blk_alloc ?_ _)); refine blk_put (cs := #[.slice Ao13 t160.length co13, .int .i64 a0_1, .int .i64 a0_2, .int .i64 a0_3, .int .i64 a0_4, .int .i64 a0_5]) ?_ 1 _ rfl; (with_reducible repeat (first | refine blk_drewN ?_ _ | refine blk_drew ?_ | refine blk_alloc ?_ _)); refine blk_put (cs := #[.slice A0_0 l0_0.length c0_0, .int .i64 a0_1, .int .i64 a0_2, .int .i64 a0_3, .int .i64 a0_4, .int .i64 a0_5]) ?_ 0 _ rfl; (with_reducible repeat (first | refine blk_drewN ?_ _ | refine blk_drew ?_ | refine blk_alloc ?_ _)); exact BK157.out⟩
  have n2_ : Aside0 ((((((((((w12.setCell ⟨gb157, 0, none⟩ (.slice Ao13 t160.length co13)).setCell ⟨gb157, 1, none⟩ (.int .i64 t163)).setCell ⟨gb157, 2, none⟩ (.int .i64 t164)).setCell ⟨gb157, 3, none⟩ (.int .i64 t165)).setCell ⟨gb157, 4, none⟩ (.int .i64 t166)).setCell ⟨gb157, 5, none⟩ (.int .i64 t167)).setCell ⟨gb157, 3, none⟩ (.int .i64 0)).setCell ⟨gb157, 4, none⟩ (.int .i64 0)).setCell ⟨gb157, 5, none⟩ (.int .i64 0)).heap[gb158]? = some (.cells #[.slice none 0 0, .int .i64 0, .int .i64 0, .int .i64 0, .int .i64 0, .int .i64 0] 24 (0, 0))) := ⟨by exact blk_kb BK158.out NB158_157.out⟩
  have n3_ : Aside0 (Below w.heap.size w (((((((((w12.setCell ⟨gb157, 0, none⟩ (.slice Ao13 t160.length co13)).setCell ⟨gb157, 1, none⟩ (.int .i64 t163)).setCell ⟨gb157, 2, none⟩ (.int .i64 t164)).setCell ⟨gb157, 3, none⟩ (.int .i64 t165)).setCell ⟨gb157, 4, none⟩ (.int .i64 t166)).setCell ⟨gb157, 5, none⟩ (.int .i64 t167)).setCell ⟨gb157, 3, none⟩ (.int .i64 0)).setCell ⟨gb157, 4, none⟩ (.int .i64 0)).setCell ⟨gb157, 5, none⟩ (.int .i64 0))) := ⟨by exact bel0⟩
  (try clear HO162); (try clear BK157); (try clear BK158); (try clear HB)
  generalize (((((((((w12.setCell ⟨gb157, 0, none⟩ (.slice Ao13 t160.length co13)).setCell ⟨gb157, 1, none⟩ (.int .i64 t163)).setCell ⟨gb157, 2, none⟩ (.int .i64 t164)).setCell ⟨gb157, 3, none⟩ (.int .i64 t165)).setCell ⟨gb157, 4, none⟩ (.int .i64 t166)).setCell ⟨gb157, 5, none⟩ (.int .i64 t167)).setCell ⟨gb157, 3, none⟩ (.int .i64 0)).setCell ⟨gb157, 4, none⟩ (.int .i64 0)).setCell ⟨gb157, 5, none⟩ (.int .i64 0)) = w15 at n0_ n1_ n2_ n3_ ⊢
  have HO162 := n0_
  have BK157 := n1_
  have BK158 := n2_
  have HB := n3_
  clear n0_ n1_ n2_ n3_
  have n_ := an (Kd.R_drew HO162.out) (an (blk_drew BK157.out) (an (blk_drew BK158.out) (an (below_drew1 HB.out) (trivial))))
  clear HO162 BK157 BK158 HB
  obtain ⟨HO162, BK157, BK158, HB, -⟩ := n_
  refine start_ (n := 7) (S := fun w' => w'.cell? ⟨gb157, 0, none⟩ = some (.slice Ao13 t160.length co13) ∧ w'.cell? ⟨gb157, 1, none⟩ = some (.int .i64 t163) ∧ w'.cell? ⟨gb157, 2, none⟩ = some (.int .i64 t164) ∧ w'.cell? ⟨gb157, 3, none⟩ = some (.int .i64 0) ∧ w'.cell? ⟨gb157, 4, none⟩ = some (.int .i64 0) ∧ w'.cell? ⟨gb157, 5, none⟩ = some (.int .i64 0)) (ds := []) #[false, false, false, false, false, false, false] (by kernel_rfl) rfl rfl ⟨(blk_cell BK157.out 0).trans rfl, (blk_cell BK157.out 1).trans rfl, (blk_cell BK157.out 2).trans rfl, (blk_cell BK157.out 3).trans rfl, (blk_cell BK157.out 4).trans rfl, (blk_cell BK157.out 5).trans rfl⟩ (fun hHeld => ?_)
  generalize w15.drew = w16 at HO162 BK157 BK158 HB hHeld ⊢
  refine pure_ (i := 1) (N := some 17) (v := ?_) (a' := ?_) #[false, true, false, false, false, false, false] rfl rfl (by kernel_rfl) (fun _ _ _ h => h) (Or.inl ⟨by rfl, ?_⟩) ?_ ?_
  rotate_left
  ·intro w'
   go_simp
   with_reducible rfl
  rotate_left
  ·simp only [Act.put, List.setIfInBounds_toArray, List.set_cons_zero, List.set_cons_succ, i64_w, i32_w]
   rfl
  refine pure_ (i := 2) (N := some 18) (v := ?_) (a' := ?_) #[false, true, true, false, false, false, false] rfl rfl (by kernel_rfl) (fun _ _ _ h => h) (Or.inl ⟨by rfl, ?_⟩) ?_ ?_
  rotate_left
  ·intro w'
   go_simp
   with_reducible rfl
  rotate_left
  ·simp only [Act.put, List.setIfInBounds_toArray, List.set_cons_zero, List.set_cons_succ, i64_w, i32_w]
   rfl
  refine take_ (i := 0) (N := some 16) (v := ?_) (a' := ?_) #[true, true, true, false, false, false, false] rfl rfl (by kernel_rfl) (fun _ _ _ h => h) (Or.inl ⟨by rfl, ?_⟩) hHeld ?_ ?_
  rotate_left
  ·rintro w' ⟨s0, s1, s2, s3, s4, s5⟩
   go_simp
   with_reducible rfl
  rotate_left
  ·simp only [Act.put, List.setIfInBounds_toArray, List.set_cons_zero, List.set_cons_succ, i64_w, i32_w]
   rfl
  refine take_ (i := 3) (N := some 19) (v := ?_) (a' := ?_) #[true, true, true, true, false, false, false] rfl rfl (by kernel_rfl) (fun _ _ _ h => h) (Or.inl ⟨by rfl, ?_⟩) hHeld ?_ ?_
  rotate_left
  ·rintro w' ⟨s0, s1, s2, s3, s4, s5⟩
   go_simp
   with_reducible rfl
  rotate_left
  ·simp only [Act.put, List.setIfInBounds_toArray, List.set_cons_zero, List.set_cons_succ, i64_w, i32_w]
   rfl
  refine pure_ (i := 4) (N := some 20) (v := ?_) (a' := ?_) #[true, true, true, true, true, false, false] rfl rfl (by kernel_rfl) (fun _ _ _ h => h) (Or.inl ⟨by rfl, ?_⟩) ?_ ?_
  rotate_left
  ·intro w'
   go_simp
   with_reducible rfl
  rotate_left
  ·simp only [Act.put, List.setIfInBounds_toArray, List.set_cons_zero, List.set_cons_succ, i64_w, i32_w]
   rfl
  refine one_ (i := 5) (N := none) #[true, true, true, true, true, true, false] rfl rfl (by kernel_rfl) (by decide) (fun K hK => ?_)
  have hs17 : w16.cell? ⟨gb158, 0, none⟩ = some (.slice none 0 0) := (blk_cell BK158.out 0).trans rfl
  have hfs17 := blk_frozen BK158.out 0
  have hns17_0 := NB157_158.out; have hms17_0 := NB158_157.out
  have hs18 : w16.cell? ⟨gb158, 1, none⟩ = some (.int .i64 0) := (blk_cell BK158.out 1).trans rfl
  have hfs18 := blk_frozen BK158.out 1
  have hns18_0 := NB157_158.out; have hms18_0 := NB158_157.out
  have hs19 : w16.cell? ⟨gb158, 2, none⟩ = some (.int .i64 0) := (blk_cell BK158.out 2).trans rfl
  have hfs19 := blk_frozen BK158.out 2
  have hns19_0 := NB157_158.out; have hms19_0 := NB158_157.out
  have hs20 : w16.cell? ⟨gb158, 3, none⟩ = some (.int .i64 0) := (blk_cell BK158.out 3).trans rfl
  have hfs20 := blk_frozen BK158.out 3
  have hns20_0 := NB157_158.out; have hms20_0 := NB158_157.out
  have hs21 : w16.cell? ⟨gb158, 4, none⟩ = some (.int .i64 0) := (blk_cell BK158.out 4).trans rfl
  have hfs21 := blk_frozen BK158.out 4
  have hns21_0 := NB157_158.out; have hms21_0 := NB158_157.out
  have hs22 : w16.cell? ⟨gb158, 5, none⟩ = some (.int .i64 0) := (blk_cell BK158.out 5).trans rfl
  have hfs22 := blk_frozen BK158.out 5
  have hns22_0 := NB157_158.out; have hms22_0 := NB158_157.out
  refine skip_ (w1 := ?_) (by rfl) rfl ?_ ?_
  rotate_left
  ·go_simp
   rfl
  refine hK.out _ _ ⟨((cell_far (p := ⟨gb158, _, none⟩) NB157_158.out _).trans (((cell_far (p := ⟨gb158, _, none⟩) NB157_158.out _).trans (((cell_far (p := ⟨gb158, _, none⟩) NB157_158.out _).trans (((cell_far (p := ⟨gb158, _, none⟩) NB157_158.out _).trans (((cell_far (p := ⟨gb158, _, none⟩) NB157_158.out _).trans (((cell_far (p := ⟨gb158, _, none⟩) NB157_158.out _).trans (hHeld.1)))))))))))), ((cell_far (p := ⟨gb158, _, none⟩) NB157_158.out _).trans (((cell_far (p := ⟨gb158, _, none⟩) NB157_158.out _).trans (((cell_far (p := ⟨gb158, _, none⟩) NB157_158.out _).trans (((cell_far (p := ⟨gb158, _, none⟩) NB157_158.out _).trans (((cell_far (p := ⟨gb158, _, none⟩) NB157_158.out _).trans (((cell_far (p := ⟨gb158, _, none⟩) NB157_158.out _).trans (hHeld.2.1)))))))))))), ((cell_far (p := ⟨gb158, _, none⟩) NB157_158.out _).trans (((cell_far (p := ⟨gb158, _, none⟩) NB157_158.out _).trans (((cell_far (p := ⟨gb158, _, none⟩) NB157_158.out _).trans (((cell_far (p := ⟨gb158, _, none⟩) NB157_158.out _).trans (((cell_far (p := ⟨gb158, _, none⟩) NB157_158.out _).trans (((cell_far (p := ⟨gb158, _, none⟩) NB157_158.out _).trans (hHeld.2.2.1)))))))))))), ((cell_far (p := ⟨gb158, _, none⟩) NB157_158.out _).trans (((cell_far (p := ⟨gb158, _, none⟩) NB157_158.out _).trans (((cell_far (p := ⟨gb158, _, none⟩) NB157_158.out _).trans (((cell_far (p := ⟨gb158, _, none⟩) NB157_158.out _).trans (((cell_far (p := ⟨gb158, _, none⟩) NB157_158.out _).trans (((cell_far (p := ⟨gb158, _, none⟩) NB157_158.out _).trans (hHeld.2.2.2.1)))))))))))), ((cell_far (p := ⟨gb158, _, none⟩) NB157_158.out _).trans (((cell_far (p := ⟨gb158, _, none⟩) NB157_158.out _).trans (((cell_far (p := ⟨gb158, _, none⟩) NB157_158.out _).trans (((cell_far (p := ⟨gb158, _, none⟩) NB157_158.out _).trans (((cell_far (p := ⟨gb158, _, none⟩) NB157_158.out _).trans (((cell_far (p := ⟨gb158, _, none⟩) NB157_158.out _).trans (hHeld.2.2.2.2.1)))))))))))), ((cell_far (p := ⟨gb158, _, none⟩) NB157_158.out _).trans (((cell_far (p := ⟨gb158, _, none⟩) NB157_158.out _).trans (((cell_far (p := ⟨gb158, _, none⟩) NB157_158.out _).trans (((cell_far (p := ⟨gb158, _, none⟩) NB157_158.out _).trans (((cell_far (p := ⟨gb158, _, none⟩) NB157_158.out _).trans (((cell_far (p := ⟨gb158, _, none⟩) NB157_158.out _).trans (hHeld.2.2.2.2.2))))))))))))⟩ (fun hHeld => ?_)
  clear hK K
  refine pure_ (i := 6) (N := some 3) (v := ?_) (a' := ?_) #[true, true, true, true, true, true, true] rfl rfl (by kernel_rfl) (fun _ _ _ h => h) (Or.inl ⟨by rfl, ?_⟩) ?_ ?_
  rotate_left
  ·intro w'
   go_simp
   with_reducible rfl
  rotate_left
  ·simp only [Act.put, List.setIfInBounds_toArray, List.set_cons_zero, List.set_cons_succ, i64_w, i32_w]
   rfl
  refine done_ (by kernel_rfl) ?_
  try go_wp2
  refine bodyPost_ret (results_ct rfl _ _ gb158 24 #[.slice Ao13 t160.length co13, .int .i64 t163, .int .i64 t164, .int .i64 0, .int .i64 0, .int .i64 0] (0, 0) _ rfl (by (with_reducible repeat (first | refine blk_drewN ?_ _ | refine blk_drew ?_ | refine blk_alloc ?_ _)); exact blk_fill6 BK158.out) Try.underlying24 rfl (by kernel_rfl)) rfl ?_
  exact ⟨_, by first | rfl | (simp [errW_none, errW_some] <;> rfl) | (simp [*, errW_none, errW_some] <;> rfl), by exact (Kd.R_farN HO162.out BK158.out), by exact bel0⟩
 ·replace c8 := Bool.eq_false_iff.mpr c8
  subst c8
  rw [if_neg (show ¬ (false = true) by decide)] at H
  simp only [Option.some.injEq, Prod.mk.injEq] at H; obtain ⟨rfl, rfl, rfl, rfl, rfl, rfl, rfl⟩ := H; have hnb23 := NB158_157.out; have hnc23 := NB157_158.out; obtain ⟨hcz24_0, hcz24_1, hcz24_2, hcz24_3, hcz24_4, hcz24_5⟩ := blkz6 BK158.out; have hfz24_0 := blkf BK158.out
  go_wp2
  refine bodyPost_ret (results_ct rfl _ _ gb158 24 #[.slice none 0 0, .int .i64 0, .int .i64 0, .int .i64 0, .int .i64 0, .int .i64 0] (0, 0) _ rfl (by (with_reducible repeat (first | refine blk_drewN ?_ _ | refine blk_drew ?_ | refine blk_alloc ?_ _)); exact blk_fill6 BK158.out) Try.underlying24 rfl (by kernel_rfl)) rfl ?_
  exact ⟨_, by first | rfl | (simp [errW_none, errW_some] <;> rfl) | (simp [*, errW_none, errW_some] <;> rfl), by first | exact Kd.R_nil _ _ _ _ _ | exact Kd.N_nil _ _ _ _ _ | exact Kd.V_nil _ _ _ _ _ | exact Kd.Q_nil _ _ _ _ _ | exact Kd.S_nil _ _ _ _ _, by exact bel0⟩

end Go.Proofs.Ytgkoinnjpcpccaa.XFnChecks
