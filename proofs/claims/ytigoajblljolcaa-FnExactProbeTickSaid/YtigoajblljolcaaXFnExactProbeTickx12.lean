-- Written by this session's own program (xprint.py) over the kit's print.
import Derived.Test.YtigoajblljolcaaXFnExactProbeTickx0
import Derived.Test.YtigoajblljolcaaXFnExactProbeTickx8
import Derived.Test.YtigoajblljolcaaXFnExactProbeTickx9
import Derived.Test.YtigoajblljolcaaXFnExactProbeTickx11
namespace Go.Proofs.Ytigoajblljolcaa.XFnExactProbeTick
open Go.RowKit Go.Proofs.YtigoajblljolcaaW.PrintWords Go.Proofs.YtigoajblljolcaaW.PrintLast Go.Proofs.YtigoajblljolcaaW.PrintMore
attribute [local go_sem] max2_int min2_int max_two min_two max_three min_three max_four min_four   -- for this text's walks alone
set_option linter.unusedVariables false
set_option linter.unusedSimpArgs false

/-! ### impl_ProbeTick: function 66 -/
def impl_ProbeTick.j0 : Nat → Bool → List Int → Int → Int → Int → Int → Int → Int → List (S82) → Option (List Int × Int × Int × Int × Int × Int × Int × Int)
  | 0, _, _, _, _, _, _, _, _, _ => none
  | k + 1, x17, x337000, x337001, x337002, x337003, x337004, x337005, x338000, x338001 => if x17 = true then (some (([] : List Int), 0, 0, 0, 0, 0, 0, 0)) else ((impl_Prober_own.f x337000 x337001 x337002 x337003 x337004 x337005).bind fun bt341 => ((impl_Prober_tick.f k bt341.1 bt341.2.1 bt341.2.2.1 bt341.2.2.2.1 bt341.2.2.2.2.1 bt341.2.2.2.2.2 x338000 x338001).bind fun bt350 => (some (bt350.2.2.1, bt350.2.2.2.1, bt350.2.2.2.2.1, bt350.2.2.2.2.2.1, bt350.2.2.2.2.2.2.1, bt350.2.2.2.2.2.2.2, bt350.1, bt350.2.1))))
def impl_ProbeTick.f (k : Nat) (l0_0 : List Int) (a0_1 : Int) (a0_2 : Int) (a0_3 : Int) (a0_4 : Int) (a0_5 : Int) (a1_0 : Int) (l1_1 : List (S82)) : Option (List Int × Int × Int × Int × Int × Int × Int × Int) := (impl_ProberOk.f k l0_0 a0_1 a0_2 a0_3 a0_4 a0_5).bind fun t339 => (if t339 = true then ((impl_TableOk.f k a1_0 l1_1).bind fun t340 => (impl_ProbeTick.j0 k (!t340) l0_0 a0_1 a0_2 a0_3 a0_4 a0_5 a1_0 l1_1)) else (impl_ProbeTick.j0 k true l0_0 a0_1 a0_2 a0_3 a0_4 a0_5 a1_0 l1_1))
theorem impl_ProbeTick.mono_l : ∀ k, (∀ y0 y1 y2 y3 y4 y5 y6 y7 y8, LeO (impl_ProbeTick.j0 k y0 y1 y2 y3 y4 y5 y6 y7 y8) (impl_ProbeTick.j0 (k + 1) y0 y1 y2 y3 y4 y5 y6 y7 y8))
  | 0 => fun _ _ _ _ _ _ _ _ _ r h => by simp [impl_ProbeTick.j0] at h
  | k + 1 => by
    have ih0 := impl_ProbeTick.mono_l k
    · intro y0 y1 y2 y3 y4 y5 y6 y7 y8
      unfold impl_ProbeTick.j0
      repeat' first
      | (with_reducible exact ih0 _ _ _ _ _ _ _ _ _)
      | (with_reducible exact impl_ProberOk.mono _ _ _ _ _ _ _)
      | (with_reducible exact impl_Prober_tick.mono _ _ _ _ _ _ _ _ _)
      | (with_reducible exact impl_TableOk.mono _ _ _)
      | (with_reducible exact LeO.refl _)
      | (with_reducible exact LeO.none _)
      | (with_reducible refine LeO.ite ?_ ?_)
      | (with_reducible refine LeO.bind ?_ (fun _ => ?_))
      | exact ih0 _ _ _ _ _ _ _ _ _
      | exact impl_ProberOk.mono _ _ _ _ _ _ _
      | exact impl_Prober_tick.mono _ _ _ _ _ _ _ _ _
      | exact impl_TableOk.mono _ _ _
      | exact LeO.none _
      | refine LeO.ite ?_ ?_
      | refine LeO.bind ?_ (fun _ => ?_)
theorem impl_ProbeTick.mono : ∀ a0 a1 a2 a3 a4 a5 a6 a7 k, LeO (impl_ProbeTick.f k a0 a1 a2 a3 a4 a5 a6 a7) (impl_ProbeTick.f (k + 1) a0 a1 a2 a3 a4 a5 a6 a7) := by
  intro a0 a1 a2 a3 a4 a5 a6 a7 k
  have ih0 := impl_ProbeTick.mono_l k
  unfold impl_ProbeTick.f
  repeat' first
      | (with_reducible exact ih0 _ _ _ _ _ _ _ _ _)
      | (with_reducible exact impl_ProberOk.mono _ _ _ _ _ _ _)
      | (with_reducible exact impl_Prober_tick.mono _ _ _ _ _ _ _ _ _)
      | (with_reducible exact impl_TableOk.mono _ _ _)
      | (with_reducible exact LeO.refl _)
      | (with_reducible exact LeO.none _)
      | (with_reducible refine LeO.ite ?_ ?_)
      | (with_reducible refine LeO.bind ?_ (fun _ => ?_))
      | exact ih0 _ _ _ _ _ _ _ _ _
      | exact impl_ProberOk.mono _ _ _ _ _ _ _
      | exact impl_Prober_tick.mono _ _ _ _ _ _ _ _ _
      | exact impl_TableOk.mono _ _ _
      | exact LeO.none _
      | refine LeO.ite ?_ ?_
      | refine LeO.bind ?_ (fun _ => ?_)
set_option maxHeartbeats 8000000 in
set_option maxRecDepth 100000 in
theorem impl_ProbeTick.calls (k : Nat) (A0_0 : Option Addr) (c0_0 : Nat) (l0_0 : List Int) (a0_1 : Int) (a0_2 : Int) (a0_3 : Int) (a0_4 : Int) (a0_5 : Int) (a1_0 : Int) (A1_1 : Option Addr) (c1_1 : Nat) (l1_1 : List (S82)) (r1 : List Int) (r2 : Int) (r3 : Int) (r4 : Int) (r5 : Int) (r6 : Int) (r7 : Int) (r8 : Int) (w : World) (hr0_0 : Kd.C (Kd.int .i64) w A0_0 l0_0.length l0_0) (hc0_0 : l0_0.length ≤ c0_0) (hr1_1 : Kd.C k82 w A1_1 l1_1.length l1_1) (hc1_1 : l1_1.length ≤ c1_1) (h : impl_ProbeTick.f k l0_0 a0_1 a0_2 a0_3 a0_4 a0_5 a1_0 l1_1 = some (r1, r2, r3, r4, r5, r6, r7, r8)) :
    Calls Try.prog 66 #[.agg #[.slice A0_0 l0_0.length c0_0, .int .i64 a0_1, .int .i64 a0_2, .int .i64 a0_3, .int .i64 a0_4, .int .i64 a0_5], .agg #[.int .i64 a1_0, .slice A1_1 l1_1.length c1_1]] w fun e w' => ∃ v0_ : Value, e = .returned (.tuple #[.agg #[v0_, .int .i64 r2, .int .i64 r3, .int .i64 r4, .int .i64 r5, .int .i64 r6], .int .i64 r7, .int .i64 r8]) ∧ Kd.R (Kd.int .i64) 3 w' w.heap.size (fun _ => True) v0_ r1 ∧ Below w.heap.size w w' := by
  have hu90 := Try.underlying90
  have hu41 := Try.underlying41
  have HR0_0 := Aside0.mk hr0_0
  have HC0_0 := Aside0.mk hc0_0
  clear hr0_0 hc0_0
  have HR1_1 := Aside0.mk hr1_1
  have HC1_1 := Aside0.mk hc1_1
  clear hr1_1 hc1_1
  have HB := Aside0.mk (Below.refl w.heap.size w)
  have H : ((impl_ProberOk.f k l0_0 a0_1 a0_2 a0_3 a0_4 a0_5).bind fun t339 => (if t339 = true then ((impl_TableOk.f k a1_0 l1_1).bind fun t340 => (impl_ProbeTick.j0 k (!t340) l0_0 a0_1 a0_2 a0_3 a0_4 a0_5 a1_0 l1_1)) else (impl_ProbeTick.j0 k true l0_0 a0_1 a0_2 a0_3 a0_4 a0_5 a1_0 l1_1))) = some (r1, r2, r3, r4, r5, r6, r7, r8) := h
  clear h
  have HC3 := Aside0.mk H
  clear H
  go_enter Try.func66, Try.ntmps66
  go_upto_region 1 with (first | ((with_reducible refine gate_dst (N := 2) rfl ?_); refine box_event ?hg (N := 2) ?hd (cs := #[.slice A0_0 l0_0.length c0_0, .int .i64 a0_1, .int .i64 a0_2, .int .i64 a0_3, .int .i64 a0_4, .int .i64 a0_5]) (t := 90) ?hr ?_; (case hd => rfl); (case hg => rfl); (case hr => first | (go_simp; done) | (go_simp; rfl)); intro gb336 hg w4 hbox hb; have n_ := an (below_step (by exact bel0) hb) (an (hbox) (an ((by rw [hg]; exact (below_size (by exact bel0)) : w.heap.size ≤ gb336)) (an ((by rw [hg]; exact (below_size (by exact bel0)) : w.heap.size ≤ gb336)) (trivial)))); clear HB; obtain ⟨HB, BK336, GW336, GE336, -⟩ := n_; clear hb hbox hg) | ((with_reducible refine gate_dst (N := 3) rfl ?_); refine box_event ?hg (N := 3) ?hd (cs := #[.int .i64 a1_0, .slice A1_1 l1_1.length c1_1]) (t := 41) ?hr ?_; (case hd => rfl); (case hg => rfl); (case hr => first | (go_simp; done) | (go_simp; rfl)); intro gb337 hg w5 hbox hb; have n_ := an (blk_below (blk_nw BK336.out) hb) (an (below_step (by exact bel0) hb) (an (hbox) (an ((by rw [hg]; exact (below_size (by exact bel0)) : w.heap.size ≤ gb337)) (an ((by rw [hg]; exact (below_size (by exact bel0)) : w.heap.size ≤ gb337)) (an ((by rw [hg]; exact Nat.ne_of_lt (blk_lt (blk_nw BK336.out)) : gb336 ≠ gb337)) (an ((by rw [hg]; exact Nat.ne_of_gt (blk_lt (blk_nw BK336.out)) : gb337 ≠ gb336)) (trivial))))))); clear BK336 HB; obtain ⟨BK336, HB, BK337, GW337, GE337, NB336_337, NB337_336, -⟩ := n_; clear hb hbox hg) | ((with_reducible refine gate_dst (N := 4) rfl ?_); refine box_event ?hg (N := 4) ?hd (cs := #[.slice none 0 0, .int .i64 0, .int .i64 0, .int .i64 0, .int .i64 0, .int .i64 0]) (t := 90) ?hr ?_; (case hd => rfl); (case hg => rfl); (case hr => first | (go_simp; done) | (go_simp; rfl)); intro gb338 hg w6 hbox hb; have n_ := an (blk_below (blk_nw BK336.out) hb) (an (blk_below (blk_nw BK337.out) hb) (an (below_step (by exact bel0) hb) (an (hbox) (an ((by rw [hg]; exact (below_size (by exact bel0)) : w.heap.size ≤ gb338)) (an ((by rw [hg]; exact (below_size (by exact bel0)) : w.heap.size ≤ gb338)) (an ((by rw [hg]; exact Nat.ne_of_lt (blk_lt (blk_nw BK336.out)) : gb336 ≠ gb338)) (an ((by rw [hg]; exact Nat.ne_of_gt (blk_lt (blk_nw BK336.out)) : gb338 ≠ gb336)) (an ((by rw [hg]; exact Nat.ne_of_lt (blk_lt (blk_nw BK337.out)) : gb337 ≠ gb338)) (an ((by rw [hg]; exact Nat.ne_of_gt (blk_lt (blk_nw BK337.out)) : gb338 ≠ gb337)) (trivial)))))))))); clear BK336 BK337 HB; obtain ⟨BK336, BK337, HB, BK338, GW338, GE338, NB336_338, NB338_336, NB337_338, NB338_337, -⟩ := n_; clear hb hbox hg))
  (try simp only [Act.put, List.setIfInBounds_toArray, List.set_cons_zero, List.set_cons_succ])
  go_cut [17] (fun v17 wc => ∃ (kq : Nat) (x17_2 : Bool), v17 = .bool x17_2 ∧ Aside0 (impl_ProbeTick.j0 kq x17_2 l0_0 a0_1 a0_2 a0_3 a0_4 a0_5 a1_0 l1_1 = some (r1, r2, r3, r4, r5, r6, r7, r8)) ∧ Aside0 (kq ≤ k) ∧ Aside0 (wc.heap[gb336]? = some (.cells #[(.slice A0_0 l0_0.length c0_0), .int .i64 a0_1, .int .i64 a0_2, .int .i64 a0_3, .int .i64 a0_4, .int .i64 a0_5] 90 (0, 0))) ∧ Aside0 (wc.heap[gb337]? = some (.cells #[.int .i64 a1_0, (.slice A1_1 l1_1.length c1_1)] 41 (0, 0))) ∧ Aside0 (wc.heap[gb338]? = some (.cells #[(.slice none 0 0), .int .i64 0, .int .i64 0, .int .i64 0, .int .i64 0, .int .i64 0] 90 (0, 0))) ∧ Aside0 (Below w.heap.size w wc))
  case first =>
    have H := HC3.out
    clear HC3
    replace H := Option.bind_eq_some_iff.mp H
    obtain ⟨t339, A70, H⟩ := H
    have A7 := Aside0.mk A70
    clear A70
    have hnb8 := NB336_337.out
    have hnc8 := NB337_336.out
    have hnb9 := NB336_338.out
    have hnc9 := NB338_336.out
    obtain ⟨hcz10_0, hcz10_1, hcz10_2, hcz10_3, hcz10_4, hcz10_5⟩ := blkz6 BK336.out
    have hfz10_0 := blkf BK336.out
    replace H := Aside0.mk H
    go_wp2_with (first | ((with_reducible refine gate_callee (f := 122) rfl ?_); refine goesL_ (some 11) rfl rfl Try.func122 (by kernel_rfl) rfl #[.agg #[.slice A0_0 l0_0.length c0_0, .int .i64 a0_1, .int .i64 a0_2, .int .i64 a0_3, .int .i64 a0_4, .int .i64 a0_5]] rfl (by (try simp only [List.map_toArray, List.map_cons, List.map_nil]); first | done | rfl | (simp only [List.length_drop, List.length_take]; rfl)) ?_; (with_reducible refine (impl_ProberOk.calls k _ _ l0_0 a0_1 a0_2 a0_3 a0_4 a0_5 t339 _ ?side1 ?side2 A7.out).mono ?_); (case side1 => repeat (first | exact (Kd.C_below HR0_0.out HB.out) | (with_reducible refine Kd.C_alloc ?_ _) | (with_reducible refine Kd.C_drewN ?_ _) | (with_reducible refine Kd.C_drew ?_))); (case side2 => exact HC0_0.out); rintro e w11 ⟨rfl, hb⟩; refine ⟨_, rfl, ?_⟩; have n_ := an (blk_below (blk_nw BK336.out) hb) (an (blk_below (blk_nw BK337.out) hb) (an (blk_below (blk_nw BK338.out) hb) (an (below_step (by exact bel0) hb) (trivial)))); clear BK336 BK337 BK338 HB; obtain ⟨BK336, BK337, BK338, HB, -⟩ := n_; (try clear hb); (try clear hb2); (try clear hk); (try clear hi); refine Stop.out ?_))
    refine Stop.mk ?_
    replace H := H.out
    by_cases c12 : t339 = true
    · subst c12
      rw [if_pos rfl] at H
      replace H := Option.bind_eq_some_iff.mp H
      obtain ⟨t340, A130, H⟩ := H
      have A13 := Aside0.mk A130
      clear A130
      have H' := Aside0.mk H
      clear H
      have hnb14 := NB337_336.out
      have hnc14 := NB336_337.out
      have hnb15 := NB337_338.out
      have hnc15 := NB338_337.out
      obtain ⟨hcz16_0, hcz16_1⟩ := blkz2 BK337.out
      have hfz16_0 := blkf BK337.out
      go_wp2_with (first | (go_at_call 81; (with_reducible refine (impl_TableOk.calls k a1_0 _ _ l1_1 t340 _ ?side1 ?side2 A13.out).mono ?_); (case side1 => repeat (first | exact (Kd.C_below HR1_1.out HB.out) | (with_reducible refine Kd.C_alloc ?_ _) | (with_reducible refine Kd.C_drewN ?_ _) | (with_reducible refine Kd.C_drew ?_))); (case side2 => exact HC1_1.out); rintro e w17 ⟨rfl, hb⟩; have n_ := an (blk_below (blk_nw BK336.out) hb) (an (blk_below (blk_nw BK337.out) hb) (an (blk_below (blk_nw BK338.out) hb) (an (below_step (by exact bel0) hb) (trivial)))); clear BK336 BK337 BK338 HB; obtain ⟨BK336, BK337, BK338, HB, -⟩ := n_; (try clear hb); (try clear hb2); (try clear hk); (try clear hi)))
      go_meet
      case rel => exact ⟨_, (!t340), (by first | rfl | (simp; done) | (simp [*]; done)), H', ⟨by first | omega | exact Nat.le_refl _⟩, ⟨by exact blk_nw BK336.out⟩, ⟨by exact blk_nw BK337.out⟩, ⟨by exact blk_nw BK338.out⟩, ⟨by exact bel0⟩⟩
    · replace c12 := Bool.eq_false_iff.mpr c12
      subst c12
      rw [if_neg (show ¬ (false = true) by decide)] at H
      have H' := Aside0.mk H
      clear H
      go_wp2
      go_meet
      case rel => exact ⟨_, (true), (by first | rfl | (simp; done) | (simp [*]; done)), H', ⟨by first | omega | exact Nat.le_refl _⟩, ⟨by exact blk_nw BK336.out⟩, ⟨by exact blk_nw BK337.out⟩, ⟨by exact blk_nw BK338.out⟩, ⟨by exact bel0⟩⟩
  case rest =>
    clear HC3
    try clear c1
    try clear p2
    try clear c6
    try clear c8
    try clear c9
    try clear c12
    try clear c14
    try clear c15
    try clear hcz10_0
    try clear hcz10_1
    try clear hcz10_2
    try clear hcz10_3
    try clear hcz10_4
    try clear hcz10_5
    try clear hcz16_0
    try clear hcz16_1
    try clear hfz10_0
    try clear hfz10_1
    try clear hfz10_2
    try clear hfz10_3
    try clear hfz10_4
    try clear hfz10_5
    try clear hfz16_0
    try clear hfz16_1
    obtain ⟨kq, x17_2, rfl, HA, HJ2, BK336, BK337, BK338, HB⟩ := hcut
    cases kq with
    | zero => exact absurd HA.out (by simp [impl_ProbeTick.j0])
    | succ kj2 =>
      have H := HA.out
      clear HA
      simp only [impl_ProbeTick.j0] at H
      by_cases c18 : x17_2 = true
      · subst c18
        rw [if_pos rfl] at H
        simp only [Option.some.injEq, Prod.mk.injEq] at H
        obtain ⟨rfl, rfl, rfl, rfl, rfl, rfl, rfl, rfl⟩ := H
        have hnb19 := NB338_336.out
        have hnc19 := NB336_338.out
        have hnb20 := NB338_337.out
        have hnc20 := NB337_338.out
        obtain ⟨hcz21_0, hcz21_1, hcz21_2, hcz21_3, hcz21_4, hcz21_5⟩ := blkz6 BK338.out
        have hfz21_0 := blkf BK338.out
        go_wp2_with (first | ((with_reducible refine gate_store (t := 90) (p := 4) rfl ?_); refine store_event (t := 90) (p := 4) (v := ?vo_w22) (w1 := ((((((wc.setCell ⟨gb338, 0, none⟩ (.slice none 0 0)).setCell ⟨gb338, 1, none⟩ (.int .i64 0)).setCell ⟨gb338, 2, none⟩ (.int .i64 0)).setCell ⟨gb338, 3, none⟩ (.int .i64 0)).setCell ⟨gb338, 4, none⟩ (.int .i64 0)).setCell ⟨gb338, 5, none⟩ (.int .i64 0))) ?hg ?ho ?hn ?hr ?_; (case ho => rfl); (case hg => rfl); (case hn => rfl); (case hr => first | (go_simp; done) | (go_simp; rfl)); intro w22 hw; have n0_ : Aside0 (w22.heap[gb336]? = some (.cells #[.slice A0_0 l0_0.length c0_0, .int .i64 a0_1, .int .i64 a0_2, .int .i64 a0_3, .int .i64 a0_4, .int .i64 a0_5] 90 (0, 0))) := ⟨(by rw [hw]; exact (by exact blk_kb BK336.out NB336_338.out))⟩; have n1_ : Aside0 (w22.heap[gb337]? = some (.cells #[.int .i64 a1_0, .slice A1_1 l1_1.length c1_1] 41 (0, 0))) := ⟨(by rw [hw]; exact (by exact blk_kb BK337.out NB337_338.out))⟩; have n2_ : Aside0 (w22.heap[gb338]? = some (.cells #[.slice none 0 0, .int .i64 0, .int .i64 0, .int .i64 0, .int .i64 0, .int .i64 0] 90 (0, 0))) := ⟨(by rw [hw]; exact (by (with_reducible repeat (first | refine blk_drewN ?_ _ | refine blk_drew ?_ | refine blk_alloc ?_ _)); exact blk_fill6 BK338.out))⟩; have n3_ : Aside0 (Below w.heap.size w w22) := ⟨(by rw [hw]; exact (by exact bel0))⟩; clear hw; clear BK336; clear BK337; clear BK338; clear HB; have BK336 := n0_; have BK337 := n1_; have BK338 := n2_; have HB := n3_; clear n0_ n1_ n2_ n3_))
        refine bodyPost_ret (results_ctt rfl _ _ gb338 90 #[.slice none 0 0, .int .i64 0, .int .i64 0, .int .i64 0, .int .i64 0, .int .i64 0] (0, 0) _ rfl (by exact blk_nw BK338.out) Try.underlying90 rfl (by kernel_rfl)) rfl ?_
        exact ⟨_, by first | rfl | (simp [errW_none, errW_some] <;> rfl) | (simp [*, errW_none, errW_some] <;> rfl), by first | exact Kd.R_nil _ _ _ _ _ | exact Kd.N_nil _ _ _ _ _ | exact Kd.V_nil _ _ _ _ _ | exact Kd.Q_nil _ _ _ _ _ | exact Kd.S_nil _ _ _ _ _, by exact bel0⟩
      · replace c18 := Bool.eq_false_iff.mpr c18
        subst c18
        rw [if_neg (show ¬ (false = true) by decide)] at H
        replace H := Option.bind_eq_some_iff.mp H
        obtain ⟨⟨t341, t344, t345, t346, t347, t348⟩, A230, H⟩ := H
        replace H : ((impl_Prober_tick.f kj2 t341 t344 t345 t346 t347 t348 a1_0 l1_1).bind fun bt350 => (some (bt350.2.2.1, bt350.2.2.2.1, bt350.2.2.2.2.1, bt350.2.2.2.2.2.1, bt350.2.2.2.2.2.2.1, bt350.2.2.2.2.2.2.2, bt350.1, bt350.2.1))) = some (r1, r2, r3, r4, r5, r6, r7, r8) := H
        have A23 := Aside0.mk A230
        clear A230
        replace H := Option.bind_eq_some_iff.mp H
        obtain ⟨⟨t350, t351, t352, t355, t356, t357, t358, t359⟩, A240, H⟩ := H
        replace H : (some (t352, t355, t356, t357, t358, t359, t350, t351)) = some (r1, r2, r3, r4, r5, r6, r7, r8) := H
        have A24 := Aside0.mk A240
        clear A240
        simp only [Option.some.injEq, Prod.mk.injEq] at H
        obtain ⟨rfl, rfl, rfl, rfl, rfl, rfl, rfl, rfl⟩ := H
        have hnb25 := NB336_337.out
        have hnc25 := NB337_336.out
        have hnb26 := NB336_338.out
        have hnc26 := NB338_336.out
        obtain ⟨hcz27_0, hcz27_1, hcz27_2, hcz27_3, hcz27_4, hcz27_5⟩ := blkz6 BK336.out
        have hfz27_0 := blkf BK336.out
        go_wp2_with (first | ((with_reducible refine gate_callee (f := 123) rfl ?_); refine goesL_ (some 20) rfl rfl Try.func123 (by kernel_rfl) rfl #[.agg #[.slice A0_0 l0_0.length c0_0, .int .i64 a0_1, .int .i64 a0_2, .int .i64 a0_3, .int .i64 a0_4, .int .i64 a0_5]] rfl (by (try simp only [List.map_toArray, List.map_cons, List.map_nil]); first | done | rfl | (simp only [List.length_drop, List.length_take]; rfl)) ?_; (with_reducible refine (impl_Prober_own.calls _ _ l0_0 a0_1 a0_2 a0_3 a0_4 a0_5 t341 t344 t345 t346 t347 t348 _ ?side1 ?side2 A23.out).mono ?_); (case side1 => repeat (first | exact (Kd.C_below HR0_0.out HB.out) | (with_reducible refine Kd.C_alloc ?_ _) | (with_reducible refine Kd.C_drewN ?_ _) | (with_reducible refine Kd.C_drew ?_))); (case side2 => exact HC0_0.out); rintro e w28 ⟨v342, rfl, ho0, hb⟩; refine ⟨_, rfl, ?_⟩; have n_ := an (Kd.R_lower ho0 (below_size (by exact bel0))) (an (blk_below (blk_nw BK336.out) hb) (an (blk_below (blk_nw BK337.out) hb) (an (blk_below (blk_nw BK338.out) hb) (an (below_step (by exact bel0) hb) (trivial))))); clear BK336 BK337 BK338 HB; obtain ⟨HO343, BK336, BK337, BK338, HB, -⟩ := n_; (try clear hb); (try clear hb2); (try clear hk); (try clear hi); (try clear ho0)) | ((with_reducible refine gate_dst (N := 7) rfl ?_); refine box_event ?hg (N := 7) ?hd (cs := #[.slice none 0 0, .int .i64 0, .int .i64 0, .int .i64 0, .int .i64 0, .int .i64 0]) (t := 90) ?hr ?_; (case hd => rfl); (case hg => rfl); (case hr => first | (go_simp; done) | (go_simp; rfl)); intro gb349 hg w29 hbox hb; have n_ := an (Kd.R_below (by exact Kd.R_nw HO343.out) hb) (an (blk_below (blk_nw BK336.out) hb) (an (blk_below (blk_nw BK337.out) hb) (an (blk_below (blk_nw BK338.out) hb) (an (below_step (by exact bel0) hb) (an (hbox) (an ((by rw [hg]; exact (below_size (by exact bel0)) : w.heap.size ≤ gb349)) (an ((by rw [hg]; exact (below_size (by exact bel0)) : w.heap.size ≤ gb349)) (an ((by rw [hg]; exact Nat.ne_of_lt (blk_lt (blk_nw BK336.out)) : gb336 ≠ gb349)) (an ((by rw [hg]; exact Nat.ne_of_gt (blk_lt (blk_nw BK336.out)) : gb349 ≠ gb336)) (an ((by rw [hg]; exact Nat.ne_of_lt (blk_lt (blk_nw BK337.out)) : gb337 ≠ gb349)) (an ((by rw [hg]; exact Nat.ne_of_gt (blk_lt (blk_nw BK337.out)) : gb349 ≠ gb337)) (an ((by rw [hg]; exact Nat.ne_of_lt (blk_lt (blk_nw BK338.out)) : gb338 ≠ gb349)) (an ((by rw [hg]; exact Nat.ne_of_gt (blk_lt (blk_nw BK338.out)) : gb349 ≠ gb338)) (trivial)))))))))))))); clear HO343 BK336 BK337 BK338 HB; obtain ⟨HO343, BK336, BK337, BK338, HB, BK349, GW349, GE349, NB336_349, NB349_336, NB337_349, NB349_337, NB338_349, NB349_338, -⟩ := n_; clear hb hbox hg; obtain ⟨Ao30, co30, eo30⟩ := Kd.R_slice HO343.out; subst eo30; have hnb31 := NB349_336.out; have hnc31 := NB336_349.out; have hnb32 := NB349_337.out; have hnc32 := NB337_349.out; have hnb33 := NB349_338.out; have hnc33 := NB338_349.out; obtain ⟨hcz34_0, hcz34_1, hcz34_2, hcz34_3, hcz34_4, hcz34_5⟩ := blkz6 BK349.out; have hfz34_0 := blkf BK349.out) | ((with_reducible refine gate_store (t := 90) (p := 7) rfl ?_); refine store_event (t := 90) (p := 7) (v := ?vo_w35) (w1 := ((((((w29.setCell ⟨gb349, 0, none⟩ (.slice Ao30 t341.length co30)).setCell ⟨gb349, 1, none⟩ (.int .i64 t344)).setCell ⟨gb349, 2, none⟩ (.int .i64 t345)).setCell ⟨gb349, 3, none⟩ (.int .i64 t346)).setCell ⟨gb349, 4, none⟩ (.int .i64 t347)).setCell ⟨gb349, 5, none⟩ (.int .i64 t348))) ?hg ?ho ?hn ?hr ?_; (case ho => rfl); (case hg => rfl); (case hn => rfl); (case hr => first | (go_simp; done) | (go_simp; rfl)); intro w35 hw; have n0_ : Aside0 (Kd.R (Kd.int .i64) 3 w35 w.heap.size (fun _ => True) (.slice Ao30 t341.length co30) t341) := ⟨(by rw [hw]; exact (by exact (Kd.R_farN HO343.out BK349.out)))⟩; have n1_ : Aside0 (w35.heap[gb336]? = some (.cells #[.slice A0_0 l0_0.length c0_0, .int .i64 a0_1, .int .i64 a0_2, .int .i64 a0_3, .int .i64 a0_4, .int .i64 a0_5] 90 (0, 0))) := ⟨(by rw [hw]; exact (by exact blk_kb BK336.out NB336_349.out))⟩; have n2_ : Aside0 (w35.heap[gb337]? = some (.cells #[.int .i64 a1_0, .slice A1_1 l1_1.length c1_1] 41 (0, 0))) := ⟨(by rw [hw]; exact (by exact blk_kb BK337.out NB337_349.out))⟩; have n3_ : Aside0 (w35.heap[gb338]? = some (.cells #[.slice none 0 0, .int .i64 0, .int .i64 0, .int .i64 0, .int .i64 0, .int .i64 0] 90 (0, 0))) := ⟨(by rw [hw]; exact (by exact blk_kb BK338.out NB338_349.out))⟩; have n4_ : Aside0 (w35.heap[gb349]? = some (.cells #[.slice Ao30 t341.length co30, .int .i64 t344, .int .i64 t345, .int .i64 t346, .int .i64 t347, .int .i64 t348] 90 (0, 0))) := ⟨(by rw [hw]; exact (by (with_reducible repeat (first | refine blk_drewN ?_ _ | refine blk_drew ?_ | refine blk_alloc ?_ _)); exact blk_fill6 BK349.out))⟩; have n5_ : Aside0 (Below w.heap.size w w35) := ⟨(by rw [hw]; exact (by exact bel0))⟩; clear hw; clear HO343; clear BK336; clear BK337; clear BK338; clear BK349; clear HB; have HO343 := n0_; have BK336 := n1_; have BK337 := n2_; have BK338 := n3_; have BK349 := n4_; have HB := n5_; clear n0_ n1_ n2_ n3_ n4_ n5_; have hnb36 := NB337_338.out; have hnc36 := NB338_337.out; obtain ⟨hcz37_0, hcz37_1⟩ := blkz2 BK337.out; have hfz37_0 := blkf BK337.out) | ((with_reducible refine gate_callee (f := 128) rfl ?_); refine goesL_ (some 23) rfl rfl Try.func128 (by kernel_rfl) rfl #[.pointer (some ⟨gb349, 0, none⟩), .agg #[.int .i64 a1_0, .slice A1_1 l1_1.length c1_1]] rfl (by (try simp only [List.map_toArray, List.map_cons, List.map_nil]); first | done | rfl | (simp only [List.length_drop, List.length_take]; rfl)) ?_; (with_reducible refine (impl_Prober_tick.calls kj2 gb349 (fun k_ => some k_ = (.slice Ao30 t341.length co30 : Value).ownBlock) (.slice Ao30 t341.length co30) t341 t344 t345 t346 t347 t348 a1_0 _ _ l1_1 t350 t351 t352 t355 t356 t357 t358 t359 w _ ?side1 ?side2 ?side3 ?side4 ?side5 ?side6 A24.out).mono ?_); (case side1 => exact bel0); (case side2 => exact blk_nw BK349.out); (case side3 => exact GE349.out); (case side4 => exact Kd.R_tight rfl HO343.out); (case side5 => exact Kd.C_kept_came k82_heap HR1_1.out (by exact bel0) (fun k_ hs_ => Or.elim hs_ (fun hs_ => (fun e_ => Kd.R_base HO343.out k_ e_.symm) hs_) (fun e_ => (by rw [e_]; exact GE349.out)))); (case side6 => exact HC1_1.out); rintro e w38 ⟨rfl, v353, ho0, hi, hb, hkp⟩; refine ⟨_, rfl, ?_⟩; have n_ := an (blk_kept (by exact blk_nw BK336.out) hkp (fun hs_ => Or.elim hs_ (fun hs_ => (fun e_ => (Kd.R_ne HO343.out BK336.out (by decide)) e_) hs_) (fun e_ => NB336_349.out e_))) (an (blk_kept (by exact blk_nw BK337.out) hkp (fun hs_ => Or.elim hs_ (fun hs_ => (fun e_ => (Kd.R_ne HO343.out BK337.out (by decide)) e_) hs_) (fun e_ => NB337_349.out e_))) (an (blk_kept (by exact blk_nw BK338.out) hkp (fun hs_ => Or.elim hs_ (fun hs_ => (fun e_ => (Kd.R_ne HO343.out BK338.out (by decide)) e_) hs_) (fun e_ => NB338_349.out e_))) (an (hi) (an (Kd.R_mono (ok' := fun k_ => True) ho0 (fun k_ hk_ => trivial)) (an (hb) (trivial)))))); clear BK336 BK337 BK338 BK349 HB HO343; obtain ⟨BK336, BK337, BK338, BK349, HO354, HB, -⟩ := n_; (try clear hb); (try clear hkp); (try clear ho0); obtain ⟨hcz39_0, hcz39_1, hcz39_2, hcz39_3, hcz39_4, hcz39_5⟩ := blkz6 BK349.out; have hfz39_0 := blkf BK349.out; obtain ⟨Ao40, co40, eo40⟩ := Kd.R_slice HO354.out; subst eo40; obtain ⟨hcz41_0, hcz41_1, hcz41_2, hcz41_3, hcz41_4, hcz41_5⟩ := blkz6 BK338.out; have hfz41_0 := blkf BK338.out) | ((with_reducible refine gate_store (t := 90) (p := 4) rfl ?_); refine store_event (t := 90) (p := 4) (v := ?vo_w42) (w1 := ((((((w38.setCell ⟨gb338, 0, none⟩ (.slice Ao40 t352.length co40)).setCell ⟨gb338, 1, none⟩ (.int .i64 t355)).setCell ⟨gb338, 2, none⟩ (.int .i64 t356)).setCell ⟨gb338, 3, none⟩ (.int .i64 t357)).setCell ⟨gb338, 4, none⟩ (.int .i64 t358)).setCell ⟨gb338, 5, none⟩ (.int .i64 t359))) ?hg ?ho ?hn ?hr ?_; (case ho => rfl); (case hg => rfl); (case hn => rfl); (case hr => first | (go_simp; done) | (go_simp; rfl)); intro w42 hw; have n0_ : Aside0 (Kd.R (Kd.int .i64) 3 w42 w.heap.size (fun _ => True) (.slice Ao40 t352.length co40) t352) := ⟨(by rw [hw]; exact (by exact (Kd.R_farN HO354.out BK338.out)))⟩; have n1_ : Aside0 (w42.heap[gb336]? = some (.cells #[.slice A0_0 l0_0.length c0_0, .int .i64 a0_1, .int .i64 a0_2, .int .i64 a0_3, .int .i64 a0_4, .int .i64 a0_5] 90 (0, 0))) := ⟨(by rw [hw]; exact (by exact blk_kb BK336.out NB336_338.out))⟩; have n2_ : Aside0 (w42.heap[gb337]? = some (.cells #[.int .i64 a1_0, .slice A1_1 l1_1.length c1_1] 41 (0, 0))) := ⟨(by rw [hw]; exact (by exact blk_kb BK337.out NB337_338.out))⟩; have n3_ : Aside0 (w42.heap[gb338]? = some (.cells #[.slice Ao40 t352.length co40, .int .i64 t355, .int .i64 t356, .int .i64 t357, .int .i64 t358, .int .i64 t359] 90 (0, 0))) := ⟨(by rw [hw]; exact (by (with_reducible repeat (first | refine blk_drewN ?_ _ | refine blk_drew ?_ | refine blk_alloc ?_ _)); exact blk_fill6 BK338.out))⟩; have n4_ : Aside0 (w42.heap[gb349]? = some (.cells #[.slice Ao40 t352.length co40, .int .i64 t355, .int .i64 t356, .int .i64 t357, .int .i64 t358, .int .i64 t359] 90 (0, 0))) := ⟨(by rw [hw]; exact (by exact blk_kb BK349.out NB349_338.out))⟩; have n5_ : Aside0 (Below w.heap.size w w42) := ⟨(by rw [hw]; exact (by exact bel0))⟩; clear hw; clear HO354; clear BK336; clear BK337; clear BK338; clear BK349; clear HB; have HO354 := n0_; have BK336 := n1_; have BK337 := n2_; have BK338 := n3_; have BK349 := n4_; have HB := n5_; clear n0_ n1_ n2_ n3_ n4_ n5_))
        refine bodyPost_ret (results_ctt rfl _ _ gb338 90 #[.slice Ao40 t352.length co40, .int .i64 t355, .int .i64 t356, .int .i64 t357, .int .i64 t358, .int .i64 t359] (0, 0) _ rfl (by exact blk_nw BK338.out) Try.underlying90 rfl (by kernel_rfl)) rfl ?_
        exact ⟨_, by first | rfl | (simp [errW_none, errW_some] <;> rfl) | (simp [*, errW_none, errW_some] <;> rfl), by exact Kd.R_nw HO354.out, by exact bel0⟩

end Go.Proofs.Ytigoajblljolcaa.XFnExactProbeTick
