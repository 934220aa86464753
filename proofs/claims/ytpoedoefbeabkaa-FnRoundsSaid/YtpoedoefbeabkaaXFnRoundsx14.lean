-- Written by this session's own program (xprint.py) over the kit's print.
import Derived.Test.YtpoedoefbeabkaaXFnRoundsx0
import Derived.Test.YtpoedoefbeabkaaXFnRoundsx10
import Derived.Test.YtpoedoefbeabkaaXFnRoundsx11
import Derived.Test.YtpoedoefbeabkaaXFnRoundsx12
import Derived.Test.YtpoedoefbeabkaaXFnRoundsx13
namespace Go.Proofs.Ytpoedoefbeabkaa.XFnRounds
open Go.RowKit Go.Proofs.YtpoedoefbeabkaaW.PrintWords Go.Proofs.YtpoedoefbeabkaaW.PrintLast Go.Proofs.YtpoedoefbeabkaaW.PrintMore
attribute [local go_sem] max2_int min2_int max_two min_two max_three min_three max_four min_four   -- for this text's walks alone
set_option linter.unusedVariables false
set_option linter.unusedSimpArgs false

/-! ### impl_NextProbe: function 11 -/
def impl_NextProbe.j0 : Nat → Bool → List Int → Int → Int → Int → Int → Int → Int → List (S40) → Option (List Int × Int × Int × Int × Int × Int × Int)
  | 0, _, _, _, _, _, _, _, _, _ => none
  | k + 1, x15, x508000, x508001, x508002, x508003, x508004, x508005, x509000, x509001 => if x15 = true then (some (([] : List Int), 0, 0, 0, 0, 0, (-1))) else ((impl_Prober_own.f x508000 x508001 x508002 x508003 x508004 x508005).bind fun bt512 => ((impl_Prober_next.f k bt512.1 bt512.2.1 bt512.2.2.1 bt512.2.2.2.1 bt512.2.2.2.2.1 bt512.2.2.2.2.2 x509000 x509001).bind fun bt521 => (some (bt521.2.1, bt521.2.2.1, bt521.2.2.2.1, bt521.2.2.2.2.1, bt521.2.2.2.2.2.1, bt521.2.2.2.2.2.2, bt521.1))))
def impl_NextProbe.f (k : Nat) (l0_0 : List Int) (a0_1 : Int) (a0_2 : Int) (a0_3 : Int) (a0_4 : Int) (a0_5 : Int) (a1_0 : Int) (l1_1 : List (S40)) : Option (List Int × Int × Int × Int × Int × Int × Int) := (impl_ProberOk.f k l0_0 a0_1 a0_2 a0_3 a0_4 a0_5).bind fun t510 => (if t510 = true then ((impl_TableOk.f k a1_0 l1_1).bind fun t511 => (impl_NextProbe.j0 k (!t511) l0_0 a0_1 a0_2 a0_3 a0_4 a0_5 a1_0 l1_1)) else (impl_NextProbe.j0 k true l0_0 a0_1 a0_2 a0_3 a0_4 a0_5 a1_0 l1_1))
theorem impl_NextProbe.mono_l : ∀ k, (∀ y0 y1 y2 y3 y4 y5 y6 y7 y8, LeO (impl_NextProbe.j0 k y0 y1 y2 y3 y4 y5 y6 y7 y8) (impl_NextProbe.j0 (k + 1) y0 y1 y2 y3 y4 y5 y6 y7 y8))
 | 0 => fun _ _ _ _ _ _ _ _ _ r h => by simp [impl_NextProbe.j0] at h
 | k + 1 => by
  have ih0 := impl_NextProbe.mono_l k
  ·intro y0 y1 y2 y3 y4 y5 y6 y7 y8
   unfold impl_NextProbe.j0
   repeat' first
   | (with_reducible exact ih0 _ _ _ _ _ _ _ _ _)
   | (with_reducible exact impl_ProberOk.mono _ _ _ _ _ _ _)
   | (with_reducible exact impl_Prober_next.mono _ _ _ _ _ _ _ _ _)
   | (with_reducible exact impl_TableOk.mono _ _ _)
   | (with_reducible exact LeO.refl _)
   | (with_reducible exact LeO.none _)
   | (with_reducible refine LeO.ite ?_ ?_)
   | (with_reducible refine LeO.bind ?_ (fun _ => ?_))
   | exact ih0 _ _ _ _ _ _ _ _ _
   | exact impl_ProberOk.mono _ _ _ _ _ _ _
   | exact impl_Prober_next.mono _ _ _ _ _ _ _ _ _
   | exact impl_TableOk.mono _ _ _
   | exact LeO.none _
   | refine LeO.ite ?_ ?_
   | refine LeO.bind ?_ (fun _ => ?_)
theorem impl_NextProbe.mono : ∀ a0 a1 a2 a3 a4 a5 a6 a7 k, LeO (impl_NextProbe.f k a0 a1 a2 a3 a4 a5 a6 a7) (impl_NextProbe.f (k + 1) a0 a1 a2 a3 a4 a5 a6 a7) := by
 intro a0 a1 a2 a3 a4 a5 a6 a7 k
 have ih0 := impl_NextProbe.mono_l k
 unfold impl_NextProbe.f
 repeat' first
   | (with_reducible exact ih0 _ _ _ _ _ _ _ _ _)
   | (with_reducible exact impl_ProberOk.mono _ _ _ _ _ _ _)
   | (with_reducible exact impl_Prober_next.mono _ _ _ _ _ _ _ _ _)
   | (with_reducible exact impl_TableOk.mono _ _ _)
   | (with_reducible exact LeO.refl _)
   | (with_reducible exact LeO.none _)
   | (with_reducible refine LeO.ite ?_ ?_)
   | (with_reducible refine LeO.bind ?_ (fun _ => ?_))
   | exact ih0 _ _ _ _ _ _ _ _ _
   | exact impl_ProberOk.mono _ _ _ _ _ _ _
   | exact impl_Prober_next.mono _ _ _ _ _ _ _ _ _
   | exact impl_TableOk.mono _ _ _
   | exact LeO.none _
   | refine LeO.ite ?_ ?_
   | refine LeO.bind ?_ (fun _ => ?_)
set_option maxHeartbeats 8000000 in
set_option maxRecDepth 100000 in
theorem impl_NextProbe.calls (k : Nat) (A0_0 : Option Addr) (c0_0 : Nat) (l0_0 : List Int) (a0_1 : Int) (a0_2 : Int) (a0_3 : Int) (a0_4 : Int) (a0_5 : Int) (a1_0 : Int) (A1_1 : Option Addr) (c1_1 : Nat) (l1_1 : List (S40)) (r1 : List Int) (r2 : Int) (r3 : Int) (r4 : Int) (r5 : Int) (r6 : Int) (r7 : Int) (w : World) (hr0_0 : Kd.C (Kd.int .i64) w A0_0 l0_0.length l0_0) (hc0_0 : l0_0.length ≤ c0_0) (hr1_1 : Kd.C k40 w A1_1 l1_1.length l1_1) (hc1_1 : l1_1.length ≤ c1_1) (h : impl_NextProbe.f k l0_0 a0_1 a0_2 a0_3 a0_4 a0_5 a1_0 l1_1 = some (r1, r2, r3, r4, r5, r6, r7)) :
  Calls Try.prog 11 #[.agg #[.slice A0_0 l0_0.length c0_0, .int .i64 a0_1, .int .i64 a0_2, .int .i64 a0_3, .int .i64 a0_4, .int .i64 a0_5], .agg #[.int .i64 a1_0, .slice A1_1 l1_1.length c1_1]] w fun e w' => ∃ v0_ : Value, e = .returned (.tuple #[.agg #[v0_, .int .i64 r2, .int .i64 r3, .int .i64 r4, .int .i64 r5, .int .i64 r6], .int .i64 r7]) ∧ Kd.R (Kd.int .i64) 3 w' w.heap.size (fun _ => True) v0_ r1 ∧ Below w.heap.size w w' := by
 have hu25 := Try.underlying25
 have hu28 := Try.underlying28
 have HR0_0 := Aside0.mk hr0_0; have HC0_0 := Aside0.mk hc0_0; clear hr0_0 hc0_0; have HR1_1 := Aside0.mk hr1_1; have HC1_1 := Aside0.mk hc1_1; clear hr1_1 hc1_1
 have HB := Aside0.mk (Below.refl w.heap.size w)
 have H : ((impl_ProberOk.f k l0_0 a0_1 a0_2 a0_3 a0_4 a0_5).bind fun t510 => (if t510 = true then ((impl_TableOk.f k a1_0 l1_1).bind fun t511 => (impl_NextProbe.j0 k (!t511) l0_0 a0_1 a0_2 a0_3 a0_4 a0_5 a1_0 l1_1)) else (impl_NextProbe.j0 k true l0_0 a0_1 a0_2 a0_3 a0_4 a0_5 a1_0 l1_1))) = some (r1, r2, r3, r4, r5, r6, r7) := h
 clear h; have HC3 := Aside0.mk H; clear H; go_enter Try.func11, Try.ntmps11
 go_upto_region 1 with (first | ((with_reducible refine gate_dst (N := 2) rfl ?_); refine box_event ?hg (N := 2) ?hd (cs := #[.slice A0_0 l0_0.length c0_0, .int .i64 a0_1, .int .i64 a0_2, .int .i64 a0_3, .int .i64 a0_4, .int .i64 a0_5]) (t := 25) ?hr ?_; (case hd => rfl); (case hg => rfl); (case hr => first | (go_simp; done) | (go_simp; rfl)); intro gb507 hg w4 hbox hb; have n_ := an (below_step (by exact bel0) hb) (an (hbox) (an ((by rw [hg]; exact (below_size (by exact bel0)) : w.heap.size ≤ gb507)) (an ((by rw [hg]; exact (below_size (by exact bel0)) : w.heap.size ≤ gb507)) (trivial)))); clear HB; obtain ⟨HB, BK507, GW507, GE507, -⟩ := n_; clear hb hbox hg) | ((with_reducible refine gate_dst (N := 3) rfl ?_); refine box_event ?hg (N := 3) ?hd (cs := #[.int .i64 a1_0, .slice A1_1 l1_1.length c1_1]) (t := 28) ?hr ?_; (case hd => rfl); (case hg => rfl); (case hr => first | (go_simp; done) | (go_simp; rfl)); intro gb508 hg w5 hbox hb; have n_ := an (blk_below (blk_nw BK507.out) hb) (an (below_step (by exact bel0) hb) (an (hbox) (an ((by rw [hg]; exact (below_size (by exact bel0)) : w.heap.size ≤ gb508)) (an ((by rw [hg]; exact (below_size (by exact bel0)) : w.heap.size ≤ gb508)) (an ((by rw [hg]; exact Nat.ne_of_lt (blk_lt (blk_nw BK507.out)) : gb507 ≠ gb508)) (an ((by rw [hg]; exact Nat.ne_of_gt (blk_lt (blk_nw BK507.out)) : gb508 ≠ gb507)) (trivial))))))); clear BK507 HB; obtain ⟨BK507, HB, BK508, GW508, GE508, NB507_508, NB508_507, -⟩ := n_; clear hb hbox hg) | ((with_reducible refine gate_dst (N := 4) rfl ?_); refine box_event ?hg (N := 4) ?hd (cs := #[.slice none 0 0, .int .i64 0, .int .i64 0, .int .i64 0, .int .i64 0, .int .i64 0]) (t := 25) ?hr ?_; (case hd => rfl); (case hg => rfl); (case hr => first | (go_simp; done) | (go_simp; rfl)); intro gb509 hg w6 hbox hb; have n_ := an (blk_below (blk_nw BK507.out) hb) (an (blk_below (blk_nw BK508.out) hb) (an (below_step (by exact bel0) hb) (an (hbox) (an ((by rw [hg]; exact (below_size (by exact bel0)) : w.heap.size ≤ gb509)) (an ((by rw [hg]; exact (below_size (by exact bel0)) : w.heap.size ≤ gb509)) (an ((by rw [hg]; exact Nat.ne_of_lt (blk_lt (blk_nw BK507.out)) : gb507 ≠ gb509)) (an ((by rw [hg]; exact Nat.ne_of_gt (blk_lt (blk_nw BK507.out)) : gb509 ≠ gb507)) (an ((by rw [hg]; exact Nat.ne_of_lt (blk_lt (blk_nw BK508.out)) : gb508 ≠ gb509)) (an ((by rw [hg]; exact Nat.ne_of_gt (blk_lt (blk_nw BK508.out)) : gb509 ≠ gb508)) (trivial)))))))))); clear BK507 BK508 HB; obtain ⟨BK507, BK508, HB, BK509, GW509, GE509, NB507_509, NB509_507, NB508_509, NB509_508, -⟩ := n_; clear hb hbox hg))
 (try simp only [Act.put, List.setIfInBounds_toArray, List.set_cons_zero, List.set_cons_succ])
 go_cut [15] (fun v15 wc => ∃ (kq : Nat) (x15_2 : Bool), v15 = .bool x15_2 ∧ Aside0 (impl_NextProbe.j0 kq x15_2 l0_0 a0_1 a0_2 a0_3 a0_4 a0_5 a1_0 l1_1 = some (r1, r2, r3, r4, r5, r6, r7)) ∧ Aside0 (kq ≤ k) ∧ Aside0 (wc.heap[gb507]? = some (.cells #[(.slice A0_0 l0_0.length c0_0), .int .i64 a0_1, .int .i64 a0_2, .int .i64 a0_3, .int .i64 a0_4, .int .i64 a0_5] 25 (0, 0))) ∧ Aside0 (wc.heap[gb508]? = some (.cells #[.int .i64 a1_0, (.slice A1_1 l1_1.length c1_1)] 28 (0, 0))) ∧ Aside0 (wc.heap[gb509]? = some (.cells #[(.slice none 0 0), .int .i64 0, .int .i64 0, .int .i64 0, .int .i64 0, .int .i64 0] 25 (0, 0))) ∧ Aside0 (Below w.heap.size w wc))
 case first =>
  have H := HC3.out; clear HC3; replace H := Option.bind_eq_some_iff.mp H; obtain ⟨t510, A70, H⟩ := H; have A7 := Aside0.mk A70; clear A70; have hnb8 := NB507_508.out; have hnc8 := NB508_507.out; have hnb9 := NB507_509.out; have hnc9 := NB509_507.out; obtain ⟨hcz10_0, hcz10_1, hcz10_2, hcz10_3, hcz10_4, hcz10_5⟩ := blkz6 BK507.out; have hfz10_0 := blkf BK507.out
  replace H := Aside0.mk H
  go_wp2_with (first | ((with_reducible refine gate_callee (f := 9) rfl ?_); refine goesL_ (some 9) rfl rfl Try.func9 (by kernel_rfl) rfl #[.agg #[.slice A0_0 l0_0.length c0_0, .int .i64 a0_1, .int .i64 a0_2, .int .i64 a0_3, .int .i64 a0_4, .int .i64 a0_5]] rfl (by (try simp only [List.map_toArray, List.map_cons, List.map_nil]); first | done | rfl | (simp only [List.length_drop, List.length_take]; rfl)) ?_; (with_reducible refine (impl_ProberOk.calls k _ _ l0_0 a0_1 a0_2 a0_3 a0_4 a0_5 t510 _ ?side1 ?side2 A7.out).mono ?_); (case side1 => repeat (first | exact (Kd.C_below HR0_0.out HB.out) | (with_reducible refine Kd.C_alloc ?_ _) | (with_reducible refine Kd.C_drewN ?_ _) | (with_reducible refine Kd.C_drew ?_))); (case side2 => exact HC0_0.out); rintro e w11 ⟨rfl, hb⟩; refine ⟨_, rfl, ?_⟩; have n_ := an (blk_below (blk_nw BK507.out) hb) (an (blk_below (blk_nw BK508.out) hb) (an (blk_below (blk_nw BK509.out) hb) (an (below_step (by exact bel0) hb) (trivial)))); clear BK507 BK508 BK509 HB; obtain ⟨BK507, BK508, BK509, HB, -⟩ := n_; (try clear hb); (try clear hb2); (try clear hk); (try clear hi); refine Stop.out ?_))
  refine Stop.mk ?_
  replace H := H.out
  by_cases c12 : t510 = true
  ·subst c12; rw [if_pos rfl] at H; replace H := Option.bind_eq_some_iff.mp H; obtain ⟨t511, A130, H⟩ := H; have A13 := Aside0.mk A130; clear A130
   have H' := Aside0.mk H
   clear H; have hnb14 := NB508_507.out; have hnc14 := NB507_508.out; have hnb15 := NB508_509.out; have hnc15 := NB509_508.out; obtain ⟨hcz16_0, hcz16_1⟩ := blkz2 BK508.out; have hfz16_0 := blkf BK508.out
   go_wp2_with (first | (go_at_call 27; (with_reducible refine (impl_TableOk.calls k a1_0 _ _ l1_1 t511 _ ?side1 ?side2 A13.out).mono ?_); (case side1 => repeat (first | exact (Kd.C_below HR1_1.out HB.out) | (with_reducible refine Kd.C_alloc ?_ _) | (with_reducible refine Kd.C_drewN ?_ _) | (with_reducible refine Kd.C_drew ?_))); (case side2 => exact HC1_1.out); rintro e w17 ⟨rfl, hb⟩; have n_ := an (blk_below (blk_nw BK507.out) hb) (an (blk_below (blk_nw BK508.out) hb) (an (blk_below (blk_nw BK509.out) hb) (an (below_step (by exact bel0) hb) (trivial)))); clear BK507 BK508 BK509 HB; obtain ⟨BK507, BK508, BK509, HB, -⟩ := n_; (try clear hb); (try clear hb2); (try clear hk); (try clear hi)))
   go_meet
   case rel => exact ⟨_, (!t511), (by first | rfl | (simp; done) | (simp [*]; done)), H', ⟨by first | omega | exact Nat.le_refl _⟩, ⟨by exact blk_nw BK507.out⟩, ⟨by exact blk_nw BK508.out⟩, ⟨by exact blk_nw BK509.out⟩, ⟨by exact bel0⟩⟩
  ·replace c12 := Bool.eq_false_iff.mpr c12
   subst c12
   rw [if_neg (show ¬ (false = true) by decide)] at H
   have H' := Aside0.mk H
   clear H
   go_wp2
   go_meet
   case rel => exact ⟨_, (true), (by first | rfl | (simp; done) | (simp [*]; done)), H', ⟨by first | omega | exact Nat.le_refl _⟩, ⟨by exact blk_nw BK507.out⟩, ⟨by exact blk_nw BK508.out⟩, ⟨by exact blk_nw BK509.out⟩, ⟨by exact bel0⟩⟩
 case rest =>
  clear HC3; try clear c1; try clear p2; try clear c8; try clear c9; try clear c11; try clear c12; try clear c14; try clear c15; try clear hcz10_0; try clear hcz10_1; try clear hcz10_2; try clear hcz10_3; try clear hcz10_4; try clear hcz10_5; try clear hcz16_0; try clear hcz16_1; try clear hfz10_0; try clear hfz10_1; try clear hfz10_2; try clear hfz10_3; try clear hfz10_4; try clear hfz10_5; try clear hfz16_0; try clear hfz16_1
  obtain ⟨kq, x15_2, rfl, HA, HJ2, BK507, BK508, BK509, HB⟩ := hcut
  cases kq with
  | zero => exact absurd HA.out (by simp [impl_NextProbe.j0])
  | succ kj2 =>
   have H := HA.out; clear HA
   simp only [impl_NextProbe.j0] at H
   by_cases c18 : x15_2 = true
   ·subst c18; rw [if_pos rfl] at H; simp only [Option.some.injEq, Prod.mk.injEq] at H; obtain ⟨rfl, rfl, rfl, rfl, rfl, rfl, rfl⟩ := H; have hnb19 := NB509_507.out; have hnc19 := NB507_509.out; have hnb20 := NB509_508.out; have hnc20 := NB508_509.out; obtain ⟨hcz21_0, hcz21_1, hcz21_2, hcz21_3, hcz21_4, hcz21_5⟩ := blkz6 BK509.out; have hfz21_0 := blkf BK509.out
    go_wp2_with (first | ((with_reducible refine gate_store (t := 25) (p := 4) rfl ?_); refine store_event (t := 25) (p := 4) (v := ?vo_w22) (w1 := ((((((wc.setCell ⟨gb509, 0, none⟩ (.slice none 0 0)).setCell ⟨gb509, 1, none⟩ (.int .i64 0)).setCell ⟨gb509, 2, none⟩ (.int .i64 0)).setCell ⟨gb509, 3, none⟩ (.int .i64 0)).setCell ⟨gb509, 4, none⟩ (.int .i64 0)).setCell ⟨gb509, 5, none⟩ (.int .i64 0))) ?hg ?ho ?hn ?hr ?_; (case ho => rfl); (case hg => rfl); (case hn => rfl); (case hr => first | (go_simp; done) | (go_simp; rfl)); intro w22 hw; have n0_ : Aside0 (w22.heap[gb507]? = some (.cells #[.slice A0_0 l0_0.length c0_0, .int .i64 a0_1, .int .i64 a0_2, .int .i64 a0_3, .int .i64 a0_4, .int .i64 a0_5] 25 (0, 0))) := ⟨(by rw [hw]; exact (by exact blk_kb BK507.out NB507_509.out))⟩; have n1_ : Aside0 (w22.heap[gb508]? = some (.cells #[.int .i64 a1_0, .slice A1_1 l1_1.length c1_1] 28 (0, 0))) := ⟨(by rw [hw]; exact (by exact blk_kb BK508.out NB508_509.out))⟩; have n2_ : Aside0 (w22.heap[gb509]? = some (.cells #[.slice none 0 0, .int .i64 0, .int .i64 0, .int .i64 0, .int .i64 0, .int .i64 0] 25 (0, 0))) := ⟨(by rw [hw]; exact (by (with_reducible repeat (first | refine blk_drewN ?_ _ | refine blk_drew ?_ | refine blk_alloc ?_ _)); exact blk_fill6 BK509.out))⟩; have n3_ : Aside0 (Below w.heap.size w w22) := ⟨(by rw [hw]; exact (by exact bel0))⟩; clear hw; clear BK507; clear BK508; clear BK509; clear HB; have BK507 := n0_; have BK508 := n1_; have BK509 := n2_; have HB := n3_; clear n0_ n1_ n2_ n3_))
    refine bodyPost_ret (results_ct rfl _ _ gb509 25 #[.slice none 0 0, .int .i64 0, .int .i64 0, .int .i64 0, .int .i64 0, .int .i64 0] (0, 0) _ rfl (by exact blk_nw BK509.out) Try.underlying25 rfl (by kernel_rfl)) rfl ?_
    exact ⟨_, by first | rfl | (simp [errW_none, errW_some] <;> rfl) | (simp [*, errW_none, errW_some] <;> rfl), by first | exact Kd.R_nil _ _ _ _ _ | exact Kd.N_nil _ _ _ _ _ | exact Kd.V_nil _ _ _ _ _ | exact Kd.Q_nil _ _ _ _ _ | exact Kd.S_nil _ _ _ _ _, by exact bel0⟩
   ·replace c18 := Bool.eq_false_iff.mpr c18
    subst c18
    rw [if_neg (show ¬ (false = true) by decide)] at H
    replace H := Option.bind_eq_some_iff.mp H
    obtain ⟨⟨t512, t515, t516, t517, t518, t519⟩, A230, H⟩ := H
    replace H : ((impl_Prober_next.f kj2 t512 t515 t516 t517 t518 t519 a1_0 l1_1).bind fun bt521 => (some (bt521.2.1, bt521.2.2.1, bt521.2.2.2.1, bt521.2.2.2.2.1, bt521.2.2.2.2.2.1, bt521.2.2.2.2.2.2, bt521.1))) = some (r1, r2, r3, r4, r5, r6, r7) := H
    have A23 := Aside0.mk A230; clear A230; replace H := Option.bind_eq_some_iff.mp H
    obtain ⟨⟨t521, t522, t525, t526, t527, t528, t529⟩, A240, H⟩ := H
    replace H : (some (t522, t525, t526, t527, t528, t529, t521)) = some (r1, r2, r3, r4, r5, r6, r7) := H
    have A24 := Aside0.mk A240; clear A240; simp only [Option.some.injEq, Prod.mk.injEq] at H; obtain ⟨rfl, rfl, rfl, rfl, rfl, rfl, rfl⟩ := H; have hnb25 := NB507_508.out; have hnc25 := NB508_507.out; have hnb26 := NB507_509.out; have hnc26 := NB509_507.out; obtain ⟨hcz27_0, hcz27_1, hcz27_2, hcz27_3, hcz27_4, hcz27_5⟩ := blkz6 BK507.out; have hfz27_0 := blkf BK507.out
    go_wp2_with (first | ((with_reducible refine gate_callee (f := 29) rfl ?_); refine goesL_ (some 18) rfl rfl Try.func29 (by kernel_rfl) rfl #[.agg #[.slice A0_0 l0_0.length c0_0, .int .i64 a0_1, .int .i64 a0_2, .int .i64 a0_3, .int .i64 a0_4, .int .i64 a0_5]] rfl (by (try simp only [List.map_toArray, List.map_cons, List.map_nil]); first | done | rfl | (simp only [List.length_drop, List.length_take]; rfl)) ?_; (with_reducible refine (impl_Prober_own.calls _ _ l0_0 a0_1 a0_2 a0_3 a0_4 a0_5 t512 t515 t516 t517 t518 t519 _ ?side1 ?side2 A23.out).mono ?_); (case side1 => repeat (first | exact (Kd.C_below HR0_0.out HB.out) | (with_reducible refine Kd.C_alloc ?_ _) | (with_reducible refine Kd.C_drewN ?_ _) | (with_reducible refine Kd.C_drew ?_))); (case side2 => exact HC0_0.out); rintro e w28 ⟨v513, rfl, ho0, hb⟩; refine ⟨_, rfl, ?_⟩; have n_ := an (Kd.R_lower ho0 (below_size (by exact bel0))) (an (blk_below (blk_nw BK507.out) hb) (an (blk_below (blk_nw BK508.out) hb) (an (blk_below (blk_nw BK509.out) hb) (an (below_step (by exact bel0) hb) (trivial))))); clear BK507 BK508 BK509 HB; obtain ⟨HO514, BK507, BK508, BK509, HB, -⟩ := n_; (try clear hb); (try clear hb2); (try clear hk); (try clear hi); (try clear ho0)) | ((with_reducible refine gate_dst (N := 6) rfl ?_); refine box_event ?hg (N := 6) ?hd (cs := #[.slice none 0 0, .int .i64 0, .int .i64 0, .int .i64 0, .int .i64 0, .int .i64 0]) (t := 25) ?hr ?_; (case hd => rfl); (case hg => rfl); (case hr => first | (go_simp; done) | (go_simp; rfl)); intro gb520 hg w29 hbox hb; have n_ := an (Kd.R_below (by exact Kd.R_nw HO514.out) hb) (an (blk_below (blk_nw BK507.out) hb) (an (blk_below (blk_nw BK508.out) hb) (an (blk_below (blk_nw BK509.out) hb) (an (below_step (by exact bel0) hb) (an (hbox) (an ((by rw [hg]; exact (below_size (by exact bel0)) : w.heap.size ≤ gb520)) (an ((by rw [hg]; exact (below_size (by exact bel0)) : w.heap.size ≤ gb520)) (an ((by rw [hg]; exact Nat.ne_of_lt (blk_lt (blk_nw BK507.out)) : gb507 ≠ gb520)) (an ((by rw [hg]; exact Nat.ne_of_gt (blk_lt (blk_nw BK507.out)) : gb520 ≠ gb507)) (an ((by rw [hg]; exact Nat.ne_of_lt (blk_lt (blk_nw BK508.out)) : gb508 ≠ gb520)) (an ((by rw [hg]; exact Nat.ne_of_gt (blk_lt (blk_nw BK508.out)) : gb520 ≠ gb508)) (an ((by rw [hg]; exact Nat.ne_of_lt (blk_lt (blk_nw BK509.out)) : gb509 ≠ gb520)) (an ((by rw [hg]; exact Nat.ne_of_gt (blk_lt (blk_nw BK509.out)) : gb520 ≠ gb509)) (trivial)))))))))))))); clear HO514 BK507 BK508 BK509 HB; obtain ⟨HO514, BK507, BK508, BK509, HB, BK520, GW520, GE520, NB507_520, NB520_507, NB508_520, NB520_508, NB509_520, NB520_509, -⟩ := n_; clear hb hbox hg; obtain ⟨Ao30, co30, eo30⟩ := Kd.R_slice HO514.out; subst eo30; have hnb31 := NB520_507.out; have hnc31 := NB507_520.out; have hnb32 := NB520_508.out; have hnc32 := NB508_520.out; have hnb33 := NB520_509.out; have hnc33 := NB509_520.out; obtain ⟨hcz34_0, hcz34_1, hcz34_2, hcz34_3, hcz34_4, hcz34_5⟩ := blkz6 BK520.out; have hfz34_0 := blkf BK520.out) | ((with_reducible refine gate_store (t := 25) (p := 6) rfl ?_); refine store_event (t := 25) (p := 6) (v := ?vo_w35) (w1 := ((((((w29.setCell ⟨gb520, 0, none⟩ (.slice Ao30 t512.length co30)).setCell ⟨gb520, 1, none⟩ (.int .i64 t515)).setCell ⟨gb520, 2, none⟩ (.int .i64 t516)).setCell ⟨gb520, 3, none⟩ (.int .i64 t517)).setCell ⟨gb520, 4, none⟩ (.int .i64 t518)).setCell ⟨gb520, 5, none⟩ (.int .i64 t519))) ?hg ?ho ?hn ?hr ?_; (case ho => rfl); (case hg => rfl); (case hn => rfl); (case hr => first | (go_simp; done) | (go_simp; rfl)); intro w35 hw; have n0_ : Aside0 (Kd.R (Kd.int .i64) 3 w35 w.heap.size (fun _ => True) (.slice Ao30 t512.length co30) t512) := ⟨(by rw [hw]; exact (by exact (Kd.R_farN HO514.out BK520.out)))⟩; have n1_ : Aside0 (w35.heap[gb507]? = some (.cells #[.slice A0_0 l0_0.length c0_0, .int .i64 a0_1, .int .i64 a0_2, .int .i64 a0_3, .int .i64 a0_4, .int .i64 a0_5] 25 (0, 0))) := ⟨(by rw [hw]; exact (by exact blk_kb BK507.out NB507_520.out))⟩; have n2_ : Aside0 (w35.heap[gb508]? = some (.cells #[.int .i64 a1_0, .slice A1_1 l1_1.length c1_1] 28 (0, 0))) := ⟨(by rw [hw]; exact (by exact blk_kb BK508.out NB508_520.out))⟩; have n3_ : Aside0 (w35.heap[gb509]? = some (.cells #[.slice none 0 0, .int .i64 0, .int .i64 0, .int .i64 0, .int .i64 0, .int .i64 0] 25 (0, 0))) := ⟨(by rw [hw]; exact (by exact blk_kb BK509.out NB509_520.out))⟩; have n4_ : Aside0 (w35.heap[gb520]? = some (.cells #[.slice Ao30 t512.length co30, .int .i64 t515, .int .i64 t516, .int .i64 t517, .int .i64 t518, .int .i64 t519] 25 (0, 0))) := ⟨(by rw [hw]; exact (by (with_reducible repeat (first | refine blk_drewN ?_ _ | refine blk_drew ?_ | refine blk_alloc ?_ _)); exact blk_fill6 BK520.out))⟩; have n5_ : Aside0 (Below w.heap.size w w35) := ⟨(by rw [hw]; exact (by exact bel0))⟩; clear hw; clear HO514; clear BK507; clear BK508; clear BK509; clear BK520; clear HB; have HO514 := n0_; have BK507 := n1_; have BK508 := n2_; have BK509 := n3_; have BK520 := n4_; have HB := n5_; clear n0_ n1_ n2_ n3_ n4_ n5_; have hnb36 := NB508_509.out; have hnc36 := NB509_508.out; obtain ⟨hcz37_0, hcz37_1⟩ := blkz2 BK508.out; have hfz37_0 := blkf BK508.out) | ((with_reducible refine gate_callee (f := 30) rfl ?_); refine goesL_ (some 20) rfl rfl Try.func30 (by kernel_rfl) rfl #[.pointer (some ⟨gb520, 0, none⟩), .agg #[.int .i64 a1_0, .slice A1_1 l1_1.length c1_1]] rfl (by (try simp only [List.map_toArray, List.map_cons, List.map_nil]); first | done | rfl | (simp only [List.length_drop, List.length_take]; rfl)) ?_; (with_reducible refine (impl_Prober_next.calls kj2 gb520 (fun k_ => some k_ = (.slice Ao30 t512.length co30 : Value).ownBlock) (.slice Ao30 t512.length co30) t512 t515 t516 t517 t518 t519 a1_0 _ _ l1_1 t521 t522 t525 t526 t527 t528 t529 w _ ?side1 ?side2 ?side3 ?side4 ?side5 ?side6 A24.out).mono ?_); (case side1 => exact bel0); (case side2 => exact blk_nw BK520.out); (case side3 => exact GE520.out); (case side4 => exact Kd.R_tight rfl HO514.out); (case side5 => exact Kd.C_kept_came k40_heap HR1_1.out (by exact bel0) (fun k_ hs_ => Or.elim hs_ (fun hs_ => (fun e_ => Kd.R_base HO514.out k_ e_.symm) hs_) (fun e_ => (by rw [e_]; exact GE520.out)))); (case side6 => exact HC1_1.out); rintro e w38 ⟨rfl, v523, ho0, hi, hb, hkp⟩; refine ⟨_, rfl, ?_⟩; have n_ := an (blk_kept (by exact blk_nw BK507.out) hkp (fun hs_ => Or.elim hs_ (fun hs_ => (fun e_ => (Kd.R_ne HO514.out BK507.out (by decide)) e_) hs_) (fun e_ => NB507_520.out e_))) (an (blk_kept (by exact blk_nw BK508.out) hkp (fun hs_ => Or.elim hs_ (fun hs_ => (fun e_ => (Kd.R_ne HO514.out BK508.out (by decide)) e_) hs_) (fun e_ => NB508_520.out e_))) (an (blk_kept (by exact blk_nw BK509.out) hkp (fun hs_ => Or.elim hs_ (fun hs_ => (fun e_ => (Kd.R_ne HO514.out BK509.out (by decide)) e_) hs_) (fun e_ => NB509_520.out e_))) (an (hi) (an (Kd.R_mono (ok' := fun k_ => True) ho0 (fun k_ hk_ => trivial)) (an (hb) (trivial)))))); clear BK507 BK508 BK509 BK520 HB HO514; obtain ⟨BK507, BK508, BK509, BK520, HO524, HB, -⟩ := n_; (try clear hb); (try clear hkp); (try clear ho0); obtain ⟨hcz39_0, hcz39_1, hcz39_2, hcz39_3, hcz39_4, hcz39_5⟩ := blkz6 BK520.out; have hfz39_0 := blkf BK520.out; obtain ⟨Ao40, co40, eo40⟩ := Kd.R_slice HO524.out; subst eo40; obtain ⟨hcz41_0, hcz41_1, hcz41_2, hcz41_3, hcz41_4, hcz41_5⟩ := blkz6 BK509.out; have hfz41_0 := blkf BK509.out) | ((with_reducible refine gate_store (t := 25) (p := 4) rfl ?_); refine store_event (t := 25) (p := 4) (v := ?vo_w42) (w1 := ((((((w38.setCell ⟨gb509, 0, none⟩ (.slice Ao40 t522.length co40)).setCell ⟨gb509, 1, none⟩ (.int .i64 t525)).setCell ⟨gb509, 2, none⟩ (.int .i64 t526)).setCell ⟨gb509, 3, none⟩ (.int .i64 t527)).setCell ⟨gb509, 4, none⟩ (.int .i64 t528)).setCell ⟨gb509, 5, none⟩ (.int .i64 t529))) ?hg ?ho ?hn ?hr ?_; (case ho => rfl); (case hg => rfl); (case hn => rfl); (case hr => first | (go_simp; done) | (go_simp; rfl)); intro w42 hw; have n0_ : Aside0 (Kd.R (Kd.int .i64) 3 w42 w.heap.size (fun _ => True) (.slice Ao40 t522.length co40) t522) := ⟨(by rw [hw]; exact (by exact (Kd.R_farN HO524.out BK509.out)))⟩; have n1_ : Aside0 (w42.heap[gb507]? = some (.cells #[.slice A0_0 l0_0.length c0_0, .int .i64 a0_1, .int .i64 a0_2, .int .i64 a0_3, .int .i64 a0_4, .int .i64 a0_5] 25 (0, 0))) := ⟨(by rw [hw]; exact (by exact blk_kb BK507.out NB507_509.out))⟩; have n2_ : Aside0 (w42.heap[gb508]? = some (.cells #[.int .i64 a1_0, .slice A1_1 l1_1.length c1_1] 28 (0, 0))) := ⟨(by rw [hw]; exact (by exact blk_kb BK508.out NB508_509.out))⟩; have n3_ : Aside0 (w42.heap[gb509]? = some (.cells #[.slice Ao40 t522.length co40, .int .i64 t525, .int .i64 t526, .int .i64 t527, .int .i64 t528, .int .i64 t529] 25 (0, 0))) := ⟨(by rw [hw]; exact (by (with_reducible repeat (first | refine blk_drewN ?_ _ | refine blk_drew ?_ | refine blk_alloc ?_ _)); exact blk_fill6 BK509.out))⟩; have n4_ : Aside0 (w42.heap[gb520]? = some (.cells #[.slice Ao40 t522.length co40, .int .i64 t525, .int .i64 t526, .int .i64 t527, .int .i64 t528, .int .i64 t529] 25 (0, 0))) := ⟨(by rw [hw]; exact (by exact blk_kb BK520.out NB520_509.out))⟩; have n5_ : Aside0 (Below w.heap.size w w42) := ⟨(by rw [hw]; exact (by exact bel0))⟩; clear hw; clear HO524; clear BK507; clear BK508; clear BK509; clear BK520; clear HB; have HO524 := n0_; have BK507 := n1_; have BK508 := n2_; have BK509 := n3_; have BK520 := n4_; have HB := n5_; clear n0_ n1_ n2_ n3_ n4_ n5_))
    refine bodyPost_ret (results_ct rfl _ _ gb509 25 #[.slice Ao40 t522.length co40, .int .i64 t525, .int .i64 t526, .int .i64 t527, .int .i64 t528, .int .i64 t529] (0, 0) _ rfl (by exact blk_nw BK509.out) Try.underlying25 rfl (by kernel_rfl)) rfl ?_
    exact ⟨_, by first | rfl | (simp [errW_none, errW_some] <;> rfl) | (simp [*, errW_none, errW_some] <;> rfl), by exact Kd.R_nw HO524.out, by exact bel0⟩

/-! ### impl_MemberOf: function 31 -/
def impl_MemberOf.f (k : Nat) (a0_0 : Int) (l0_1 : List (S40)) (a1 : Int) : Option (Int × Int × Int × Bool) := (impl_TableOk.f k a0_0 l0_1).bind fun t532 => (if t532 = true then ((impl_Table_member.f k a0_0 l0_1 a1).bind fun bt533 => (if bt533.2 = true then (if 0 ≤ bt533.1 then (if bt533.1 < (l0_1.length : Int) then (some ((rd_T40 l0_1 bt533.1).f0, (rd_T40 l0_1 bt533.1).f1, (rd_T40 l0_1 bt533.1).f2, true)) else (none)) else (none)) else (some (0, 0, 0, false)))) else (some (0, 0, 0, false)))
theorem impl_MemberOf.mono : ∀ a0 a1 a2 k, LeO (impl_MemberOf.f k a0 a1 a2) (impl_MemberOf.f (k + 1) a0 a1 a2) := by
 intro a0 a1 a2 k
 unfold impl_MemberOf.f
 repeat' first
   | (with_reducible exact impl_TableOk.mono _ _ _)
   | (with_reducible exact impl_Table_member.mono _ _ _ _)
   | (with_reducible exact LeO.refl _)
   | (with_reducible exact LeO.none _)
   | (with_reducible refine LeO.ite ?_ ?_)
   | (with_reducible refine LeO.bind ?_ (fun _ => ?_))
   | exact impl_TableOk.mono _ _ _
   | exact impl_Table_member.mono _ _ _ _
   | exact LeO.none _
   | refine LeO.ite ?_ ?_
   | refine LeO.bind ?_ (fun _ => ?_)
set_option maxHeartbeats 8000000 in
set_option maxRecDepth 100000 in
theorem impl_MemberOf.calls (k : Nat) (a0_0 : Int) (A0_1 : Option Addr) (c0_1 : Nat) (l0_1 : List (S40)) (a1 : Int) (r1 : Int) (r2 : Int) (r3 : Int) (r4 : Bool) (w : World) (hr0_1 : Kd.C k40 w A0_1 l0_1.length l0_1) (hc0_1 : l0_1.length ≤ c0_1) (h : impl_MemberOf.f k a0_0 l0_1 a1 = some (r1, r2, r3, r4)) :
  Calls Try.prog 31 #[.agg #[.int .i64 a0_0, .slice A0_1 l0_1.length c0_1], .int .i64 a1] w fun e w' => e = .returned (.tuple #[.agg #[.int .i64 r1, .int .i64 r2, .int .i64 r3], .bool r4]) ∧ Below w.heap.size w w' := by
 have hu28 := Try.underlying28
 have hu40 := Try.underlying40
 have HR0_1 := Aside0.mk hr0_1; have HC0_1 := Aside0.mk hc0_1; clear hr0_1 hc0_1
 have HB := Aside0.mk (Below.refl w.heap.size w)
 have H : ((impl_TableOk.f k a0_0 l0_1).bind fun t532 => (if t532 = true then ((impl_Table_member.f k a0_0 l0_1 a1).bind fun bt533 => (if bt533.2 = true then (if 0 ≤ bt533.1 then (if bt533.1 < (l0_1.length : Int) then (some ((rd_T40 l0_1 bt533.1).f0, (rd_T40 l0_1 bt533.1).f1, (rd_T40 l0_1 bt533.1).f2, true)) else (none)) else (none)) else (some (0, 0, 0, false)))) else (some (0, 0, 0, false)))) = some (r1, r2, r3, r4) := h
 clear h; replace H := Option.bind_eq_some_iff.mp H; obtain ⟨t532, A30, H⟩ := H; have A3 := Aside0.mk A30; clear A30; go_enter Try.func31, Try.ntmps31
 replace H := Aside0.mk H
 go_wp2_with (first | ((with_reducible refine gate_dst (N := 2) rfl ?_); refine box_event ?hg (N := 2) ?hd (cs := #[.int .i64 a0_0, .slice A0_1 l0_1.length c0_1]) (t := 28) ?hr ?_; (case hd => rfl); (case hg => rfl); (case hr => first | (go_simp; done) | (go_simp; rfl)); intro gb530 hg w4 hbox hb; have n_ := an (below_step (by exact bel0) hb) (an (hbox) (an ((by rw [hg]; exact (below_size (by exact bel0)) : w.heap.size ≤ gb530)) (an ((by rw [hg]; exact (below_size (by exact bel0)) : w.heap.size ≤ gb530)) (trivial)))); clear HB; obtain ⟨HB, BK530, GW530, GE530, -⟩ := n_; clear hb hbox hg) | ((with_reducible refine gate_dst (N := 4) rfl ?_); refine box_event ?hg (N := 4) ?hd (cs := #[.int .i64 0, .int .i64 0, .int .i64 0]) (t := 40) ?hr ?_; (case hd => rfl); (case hg => rfl); (case hr => first | (go_simp; done) | (go_simp; rfl)); intro gb531 hg w5 hbox hb; have n_ := an (blk_below (blk_nw BK530.out) hb) (an (below_step (by exact bel0) hb) (an (hbox) (an ((by rw [hg]; exact (below_size (by exact bel0)) : w.heap.size ≤ gb531)) (an ((by rw [hg]; exact (below_size (by exact bel0)) : w.heap.size ≤ gb531)) (an ((by rw [hg]; exact Nat.ne_of_lt (blk_lt (blk_nw BK530.out)) : gb530 ≠ gb531)) (an ((by rw [hg]; exact Nat.ne_of_gt (blk_lt (blk_nw BK530.out)) : gb531 ≠ gb530)) (trivial))))))); clear BK530 HB; obtain ⟨BK530, HB, BK531, GW531, GE531, NB530_531, NB531_530, -⟩ := n_; clear hb hbox hg; have hnb6 := NB530_531.out; have hnc6 := NB531_530.out; obtain ⟨hcz7_0, hcz7_1⟩ := blkz2 BK530.out; have hfz7_0 := blkf BK530.out) | ((with_reducible refine gate_callee (f := 27) rfl ?_); refine goesL_ (some 9) rfl rfl Try.func27 (by kernel_rfl) rfl #[.agg #[.int .i64 a0_0, .slice A0_1 l0_1.length c0_1]] rfl (by (try simp only [List.map_toArray, List.map_cons, List.map_nil]); first | done | rfl | (simp only [List.length_drop, List.length_take]; rfl)) ?_; (with_reducible refine (impl_TableOk.calls k a0_0 _ _ l0_1 t532 _ ?side1 ?side2 A3.out).mono ?_); (case side1 => repeat (first | exact (Kd.C_below HR0_1.out HB.out) | (with_reducible refine Kd.C_alloc ?_ _) | (with_reducible refine Kd.C_drewN ?_ _) | (with_reducible refine Kd.C_drew ?_))); (case side2 => exact HC0_1.out); rintro e w8 ⟨rfl, hb⟩; refine ⟨_, rfl, ?_⟩; have n_ := an (blk_below (blk_nw BK530.out) hb) (an (blk_below (blk_nw BK531.out) hb) (an (below_step (by exact bel0) hb) (trivial))); clear BK530 BK531 HB; obtain ⟨BK530, BK531, HB, -⟩ := n_; (try clear hb); (try clear hb2); (try clear hk); (try clear hi); refine Stop.out ?_))
 refine Stop.mk ?_
 replace H := H.out
 by_cases c9 : t532 = true
 ·subst c9; rw [if_pos rfl] at H; replace H := Option.bind_eq_some_iff.mp H
  obtain ⟨⟨t533, t534⟩, A100, H⟩ := H
  replace H : (if t534 = true then (if 0 ≤ t533 then (if t533 < (l0_1.length : Int) then (some ((rd_T40 l0_1 t533).f0, (rd_T40 l0_1 t533).f1, (rd_T40 l0_1 t533).f2, true)) else (none)) else (none)) else (some (0, 0, 0, false))) = some (r1, r2, r3, r4) := H
  have A10 := Aside0.mk A100; clear A100; have hnb11 := NB530_531.out; have hnc11 := NB531_530.out; obtain ⟨hcz12_0, hcz12_1⟩ := blkz2 BK530.out; have hfz12_0 := blkf BK530.out
  replace H := Aside0.mk H
  go_wp2_with (first | ((with_reducible refine gate_callee (f := 40) rfl ?_); refine goesL_ (some 15) rfl rfl Try.func40 (by kernel_rfl) rfl #[.agg #[.int .i64 a0_0, .slice A0_1 l0_1.length c0_1], .int .i64 a1] rfl (by (try simp only [List.map_toArray, List.map_cons, List.map_nil]); first | done | rfl | (simp only [List.length_drop, List.length_take]; rfl)) ?_; (with_reducible refine (impl_Table_member.calls k a0_0 _ _ l0_1 a1 t533 t534 _ ?side1 ?side2 A10.out).mono ?_); (case side1 => repeat (first | exact (Kd.C_below HR0_1.out HB.out) | (with_reducible refine Kd.C_alloc ?_ _) | (with_reducible refine Kd.C_drewN ?_ _) | (with_reducible refine Kd.C_drew ?_))); (case side2 => exact HC0_1.out); rintro e w13 ⟨rfl, hb⟩; refine ⟨_, rfl, ?_⟩; have n_ := an (blk_below (blk_nw BK530.out) hb) (an (blk_below (blk_nw BK531.out) hb) (an (below_step (by exact bel0) hb) (trivial))); clear BK530 BK531 HB; obtain ⟨BK530, BK531, HB, -⟩ := n_; (try clear hb); (try clear hb2); (try clear hk); (try clear hi); refine Stop.out ?_))
  refine Stop.mk ?_
  replace H := H.out
  by_cases c14 : t534 = true
  ·subst c14; rw [if_pos rfl] at H
   by_cases c15 : 0 ≤ t533
   ·rw [if_pos c15] at H; have c15b0 : decide (0 ≤ t533) = true := decide_eq_true c15; clear c15; (try simp only [c15b0])
    by_cases c16 : t533 < (l0_1.length : Int)
    ·rw [if_pos c16] at H
     have c16b0 : decide (t533 < (l0_1.length : Int)) = true := decide_eq_true c16
     clear c16; (try simp only [c16b0]); simp only [Option.some.injEq, Prod.mk.injEq] at H; obtain ⟨rfl, rfl, rfl, rfl⟩ := H; have hnb17 := NB530_531.out; have hnc17 := NB531_530.out; obtain ⟨hcz18_0, hcz18_1⟩ := blkz2 BK530.out; have hfz18_0 := blkf BK530.out
     have p535 : 0 ≤ (t533 : Int) := of_decide_eq_true (by first | (with_reducible assumption) | assumption)
     have q535 : t533 < (l0_1.length : Int) := of_decide_eq_true (by first | (with_reducible assumption) | assumption)
     obtain ⟨ad535, e535, hx535_0, hx535_1, hx535_2⟩ := at_T40 HR0_1.out t533 p535 q535
     cases e535
     replace hx535_0 := (HB.out.cell (World.block_lt_of_cell? w _ hx535_0)).trans hx535_0
     replace hx535_1 := (HB.out.cell (World.block_lt_of_cell? w _ hx535_1)).trans hx535_1
     replace hx535_2 := (HB.out.cell (World.block_lt_of_cell? w _ hx535_2)).trans hx535_2
     replace p535 := eq_true p535
     replace q535 := eq_true q535
     obtain ⟨hcz19_0, hcz19_1, hcz19_2⟩ := blkz3 BK531.out; have hfz19_0 := blkf BK531.out
     go_wp2
     refine bodyPost_ret (results_ct rfl _ _ gb531 40 #[.int .i64 ((rd_T40 l0_1 t533).f0), .int .i64 ((rd_T40 l0_1 t533).f1), .int .i64 ((rd_T40 l0_1 t533).f2)] (0, 0) _ rfl (by (with_reducible repeat (first | refine blk_drewN ?_ _ | refine blk_drew ?_ | refine blk_alloc ?_ _)); exact blk_fill3 BK531.out) Try.underlying40 rfl (by kernel_rfl)) rfl ?_
     exact ⟨by first | rfl | (simp [errW_none, errW_some] <;> rfl) | (simp [*, errW_none, errW_some] <;> rfl), by exact bel0⟩
    ·rw [if_neg c16] at H
     exact absurd H (by simp)
   ·rw [if_neg c15] at H
    exact absurd H (by simp)
  ·replace c14 := Bool.eq_false_iff.mpr c14
   subst c14
   rw [if_neg (show ¬ (false = true) by decide)] at H
   simp only [Option.some.injEq, Prod.mk.injEq] at H; obtain ⟨rfl, rfl, rfl, rfl⟩ := H; have hnb20 := NB531_530.out; have hnc20 := NB530_531.out; obtain ⟨hcz21_0, hcz21_1, hcz21_2⟩ := blkz3 BK531.out; have hfz21_0 := blkf BK531.out
   go_wp2
   refine bodyPost_ret (results_ct rfl _ _ gb531 40 #[.int .i64 0, .int .i64 0, .int .i64 0] (0, 0) _ rfl (by (with_reducible repeat (first | refine blk_drewN ?_ _ | refine blk_drew ?_ | refine blk_alloc ?_ _)); exact blk_fill3 BK531.out) Try.underlying40 rfl (by kernel_rfl)) rfl ?_
   exact ⟨by first | rfl | (simp [errW_none, errW_some] <;> rfl) | (simp [*, errW_none, errW_some] <;> rfl), by exact bel0⟩
 ·replace c9 := Bool.eq_false_iff.mpr c9
  subst c9
  rw [if_neg (show ¬ (false = true) by decide)] at H
  simp only [Option.some.injEq, Prod.mk.injEq] at H; obtain ⟨rfl, rfl, rfl, rfl⟩ := H; have hnb22 := NB531_530.out; have hnc22 := NB530_531.out; obtain ⟨hcz23_0, hcz23_1, hcz23_2⟩ := blkz3 BK531.out; have hfz23_0 := blkf BK531.out
  go_wp2
  refine bodyPost_ret (results_ct rfl _ _ gb531 40 #[.int .i64 0, .int .i64 0, .int .i64 0] (0, 0) _ rfl (by (with_reducible repeat (first | refine blk_drewN ?_ _ | refine blk_drew ?_ | refine blk_alloc ?_ _)); exact blk_fill3 BK531.out) Try.underlying40 rfl (by kernel_rfl)) rfl ?_
  exact ⟨by first | rfl | (simp [errW_none, errW_some] <;> rfl) | (simp [*, errW_none, errW_some] <;> rfl), by exact bel0⟩

/-! ### laws_life: function 12 -/
def laws_life.f (k : Nat) (a0_0 : Int) (l0_1 : List (S40)) (a1 : Int) : Option (Int × Int × Int) := (impl_MemberOf.f k a0_0 l0_1 a1).bind fun bt538 => (if bt538.2.2.2 = true then (some (bt538.1, bt538.2.1, bt538.2.2.1)) else (some (0, 0, (-1))))
theorem laws_life.mono : ∀ a0 a1 a2 k, LeO (laws_life.f k a0 a1 a2) (laws_life.f (k + 1) a0 a1 a2) := by
 intro a0 a1 a2 k
 unfold laws_life.f
 repeat' first
   | (with_reducible exact impl_MemberOf.mono _ _ _ _)
   | (with_reducible exact LeO.refl _)
   | (with_reducible exact LeO.none _)
   | (with_reducible refine LeO.ite ?_ ?_)
   | (with_reducible refine LeO.bind ?_ (fun _ => ?_))
   | exact impl_MemberOf.mono _ _ _ _
   | exact LeO.none _
   | refine LeO.ite ?_ ?_
   | refine LeO.bind ?_ (fun _ => ?_)
set_option maxHeartbeats 8000000 in
set_option maxRecDepth 100000 in
theorem laws_life.calls (k : Nat) (a0_0 : Int) (A0_1 : Option Addr) (c0_1 : Nat) (l0_1 : List (S40)) (a1 : Int) (r1 : Int) (r2 : Int) (r3 : Int) (w : World) (hr0_1 : Kd.C k40 w A0_1 l0_1.length l0_1) (hc0_1 : l0_1.length ≤ c0_1) (h : laws_life.f k a0_0 l0_1 a1 = some (r1, r2, r3)) :
  Calls Try.prog 12 #[.agg #[.int .i64 a0_0, .slice A0_1 l0_1.length c0_1], .int .i64 a1] w fun e w' => e = .returned (.agg #[.int .i64 r1, .int .i64 r2, .int .i64 r3]) ∧ Below w.heap.size w w' := by
 have hu28 := Try.underlying28
 have hu40 := Try.underlying40
 have HR0_1 := Aside0.mk hr0_1; have HC0_1 := Aside0.mk hc0_1; clear hr0_1 hc0_1
 have HB := Aside0.mk (Below.refl w.heap.size w)
 have H : ((impl_MemberOf.f k a0_0 l0_1 a1).bind fun bt538 => (if bt538.2.2.2 = true then (some (bt538.1, bt538.2.1, bt538.2.2.1)) else (some (0, 0, (-1))))) = some (r1, r2, r3) := h
 clear h; replace H := Option.bind_eq_some_iff.mp H
 obtain ⟨⟨t538, t539, t540, t541⟩, A30, H⟩ := H
 replace H : (if t541 = true then (some (t538, t539, t540)) else (some (0, 0, (-1)))) = some (r1, r2, r3) := H
 have A3 := Aside0.mk A30; clear A30; go_enter Try.func12, Try.ntmps12
 replace H := Aside0.mk H
 go_wp2_with (first | ((with_reducible refine gate_dst (N := 2) rfl ?_); refine box_event ?hg (N := 2) ?hd (cs := #[.int .i64 a0_0, .slice A0_1 l0_1.length c0_1]) (t := 28) ?hr ?_; (case hd => rfl); (case hg => rfl); (case hr => first | (go_simp; done) | (go_simp; rfl)); intro gb536 hg w4 hbox hb; have n_ := an (below_step (by exact bel0) hb) (an (hbox) (an ((by rw [hg]; exact (below_size (by exact bel0)) : w.heap.size ≤ gb536)) (an ((by rw [hg]; exact (below_size (by exact bel0)) : w.heap.size ≤ gb536)) (trivial)))); clear HB; obtain ⟨HB, BK536, GW536, GE536, -⟩ := n_; clear hb hbox hg) | ((with_reducible refine gate_dst (N := 4) rfl ?_); refine box_event ?hg (N := 4) ?hd (cs := #[.int .i64 0, .int .i64 0, .int .i64 0]) (t := 40) ?hr ?_; (case hd => rfl); (case hg => rfl); (case hr => first | (go_simp; done) | (go_simp; rfl)); intro gb537 hg w5 hbox hb; have n_ := an (blk_below (blk_nw BK536.out) hb) (an (below_step (by exact bel0) hb) (an (hbox) (an ((by rw [hg]; exact (below_size (by exact bel0)) : w.heap.size ≤ gb537)) (an ((by rw [hg]; exact (below_size (by exact bel0)) : w.heap.size ≤ gb537)) (an ((by rw [hg]; exact Nat.ne_of_lt (blk_lt (blk_nw BK536.out)) : gb536 ≠ gb537)) (an ((by rw [hg]; exact Nat.ne_of_gt (blk_lt (blk_nw BK536.out)) : gb537 ≠ gb536)) (trivial))))))); clear BK536 HB; obtain ⟨BK536, HB, BK537, GW537, GE537, NB536_537, NB537_536, -⟩ := n_; clear hb hbox hg; have hnb6 := NB536_537.out; have hnc6 := NB537_536.out; obtain ⟨hcz7_0, hcz7_1⟩ := blkz2 BK536.out; have hfz7_0 := blkf BK536.out) | ((with_reducible refine gate_callee (f := 31) rfl ?_); refine goesL_ (some 10) rfl rfl Try.func31 (by kernel_rfl) rfl #[.agg #[.int .i64 a0_0, .slice A0_1 l0_1.length c0_1], .int .i64 a1] rfl (by (try simp only [List.map_toArray, List.map_cons, List.map_nil]); first | done | rfl | (simp only [List.length_drop, List.length_take]; rfl)) ?_; (with_reducible refine (impl_MemberOf.calls k a0_0 _ _ l0_1 a1 t538 t539 t540 t541 _ ?side1 ?side2 A3.out).mono ?_); (case side1 => repeat (first | exact (Kd.C_below HR0_1.out HB.out) | (with_reducible refine Kd.C_alloc ?_ _) | (with_reducible refine Kd.C_drewN ?_ _) | (with_reducible refine Kd.C_drew ?_))); (case side2 => exact HC0_1.out); rintro e w8 ⟨rfl, hb⟩; refine ⟨_, rfl, ?_⟩; have n_ := an (blk_below (blk_nw BK536.out) hb) (an (blk_below (blk_nw BK537.out) hb) (an (below_step (by exact bel0) hb) (trivial))); clear BK536 BK537 HB; obtain ⟨BK536, BK537, HB, -⟩ := n_; (try clear hb); (try clear hb2); (try clear hk); (try clear hi)) | ((with_reducible refine gate_dst (N := 5) rfl ?_); refine box_event ?hg (N := 5) ?hd (cs := #[.int .i64 0, .int .i64 0, .int .i64 0]) (t := 40) ?hr ?_; (case hd => rfl); (case hg => rfl); (case hr => first | (go_simp; done) | (go_simp; rfl)); intro gb542 hg w9 hbox hb; have n_ := an (blk_below (blk_nw BK536.out) hb) (an (blk_below (blk_nw BK537.out) hb) (an (below_step (by exact bel0) hb) (an (hbox) (an ((by rw [hg]; exact (below_size (by exact bel0)) : w.heap.size ≤ gb542)) (an ((by rw [hg]; exact (below_size (by exact bel0)) : w.heap.size ≤ gb542)) (an ((by rw [hg]; exact Nat.ne_of_lt (blk_lt (blk_nw BK536.out)) : gb536 ≠ gb542)) (an ((by rw [hg]; exact Nat.ne_of_gt (blk_lt (blk_nw BK536.out)) : gb542 ≠ gb536)) (an ((by rw [hg]; exact Nat.ne_of_lt (blk_lt (blk_nw BK537.out)) : gb537 ≠ gb542)) (an ((by rw [hg]; exact Nat.ne_of_gt (blk_lt (blk_nw BK537.out)) : gb542 ≠ gb537)) (trivial)))))))))); clear BK536 BK537 HB; obtain ⟨BK536, BK537, HB, BK542, GW542, GE542, NB536_542, NB542_536, NB537_542, NB542_537, -⟩ := n_; clear hb hbox hg; have hnb10 := NB542_536.out; have hnc10 := NB536_542.out; have hnb11 := NB542_537.out; have hnc11 := NB537_542.out; obtain ⟨hcz12_0, hcz12_1, hcz12_2⟩ := blkz3 BK542.out; have hfz12_0 := blkf BK542.out; refine Stop.out ?_))
 refine Stop.mk ?_
 replace H := H.out
 by_cases c13 : t541 = true
 ·subst c13; rw [if_pos rfl] at H; simp only [Option.some.injEq, Prod.mk.injEq] at H; obtain ⟨rfl, rfl, rfl⟩ := H; have hnb14 := NB542_536.out; have hnc14 := NB536_542.out; have hnb15 := NB542_537.out; have hnc15 := NB537_542.out; obtain ⟨hcz16_0, hcz16_1, hcz16_2⟩ := blkz3 BK542.out; have hfz16_0 := blkf BK542.out; have hnb17 := NB537_536.out; have hnc17 := NB536_537.out; obtain ⟨hcz18_0, hcz18_1, hcz18_2⟩ := blkz3 BK537.out; have hfz18_0 := blkf BK537.out
  go_wp2
  refine bodyPost_ret (results_cell_row rfl _ _ gb537 40 #[.int .i64 t538, .int .i64 t539, .int .i64 t540] (0, 0) _ rfl (by (with_reducible repeat (first | refine blk_drewN ?_ _ | refine blk_drew ?_ | refine blk_alloc ?_ _)); refine blk_put (cs := #[.int .i64 t538, .int .i64 t539, .int .i64 0]) ?_ 2 _ rfl; (with_reducible repeat (first | refine blk_drewN ?_ _ | refine blk_drew ?_ | refine blk_alloc ?_ _)); refine blk_put (cs := #[.int .i64 t538, .int .i64 0, .int .i64 0]) ?_ 1 _ rfl; (with_reducible repeat (first | refine blk_drewN ?_ _ | refine blk_drew ?_ | refine blk_alloc ?_ _)); refine blk_put (cs := #[.int .i64 0, .int .i64 0, .int .i64 0]) ?_ 0 _ rfl; (with_reducible repeat (first | refine blk_drewN ?_ _ | refine blk_drew ?_ | refine blk_alloc ?_ _)); refine blk_far ?_ NB537_542.out _; (with_reducible repeat (first | refine blk_drewN ?_ _ | refine blk_drew ?_ | refine blk_alloc ?_ _)); refine blk_far ?_ NB537_542.out _; (with_reducible repeat (first | refine blk_drewN ?_ _ | refine blk_drew ?_ | refine blk_alloc ?_ _)); refine blk_far ?_ NB537_542.out _; (with_reducible repeat (first | refine blk_drewN ?_ _ | refine blk_drew ?_ | refine blk_alloc ?_ _)); exact BK537.out) Try.underlying40 rfl (by kernel_rfl)) rfl ?_
  exact ⟨by first | rfl | (simp [errW_none, errW_some] <;> rfl) | (simp [*, errW_none, errW_some] <;> rfl), by exact bel0⟩
 ·replace c13 := Bool.eq_false_iff.mpr c13
  subst c13
  rw [if_neg (show ¬ (false = true) by decide)] at H
  simp only [Option.some.injEq, Prod.mk.injEq] at H; obtain ⟨rfl, rfl, rfl⟩ := H; have hnb19 := NB537_536.out; have hnc19 := NB536_537.out; have hnb20 := NB537_542.out; have hnc20 := NB542_537.out; obtain ⟨hcz21_0, hcz21_1, hcz21_2⟩ := blkz3 BK537.out; have hfz21_0 := blkf BK537.out
  go_wp2
  refine bodyPost_ret (results_cell_row rfl _ _ gb537 40 #[.int .i64 0, .int .i64 0, .int .i64 (-1)] (0, 0) _ rfl (by (with_reducible repeat (first | refine blk_drewN ?_ _ | refine blk_drew ?_ | refine blk_alloc ?_ _)); refine blk_put (cs := #[.int .i64 0, .int .i64 0, .int .i64 0]) ?_ 2 _ rfl; (with_reducible repeat (first | refine blk_drewN ?_ _ | refine blk_drew ?_ | refine blk_alloc ?_ _)); refine blk_put (cs := #[.int .i64 0, .int .i64 0, .int .i64 0]) ?_ 1 _ rfl; (with_reducible repeat (first | refine blk_drewN ?_ _ | refine blk_drew ?_ | refine blk_alloc ?_ _)); refine blk_put (cs := #[.int .i64 0, .int .i64 0, .int .i64 0]) ?_ 0 _ rfl; (with_reducible repeat (first | refine blk_drewN ?_ _ | refine blk_drew ?_ | refine blk_alloc ?_ _)); refine blk_far ?_ NB537_542.out _; (with_reducible repeat (first | refine blk_drewN ?_ _ | refine blk_drew ?_ | refine blk_alloc ?_ _)); refine blk_far ?_ NB537_542.out _; (with_reducible repeat (first | refine blk_drewN ?_ _ | refine blk_drew ?_ | refine blk_alloc ?_ _)); refine blk_far ?_ NB537_542.out _; (with_reducible repeat (first | refine blk_drewN ?_ _ | refine blk_drew ?_ | refine blk_alloc ?_ _)); exact BK537.out) Try.underlying40 rfl (by kernel_rfl)) rfl ?_
  exact ⟨by first | rfl | (simp [errW_none, errW_some] <;> rfl) | (simp [*, errW_none, errW_some] <;> rfl), by exact bel0⟩

end Go.Proofs.Ytpoedoefbeabkaa.XFnRounds
