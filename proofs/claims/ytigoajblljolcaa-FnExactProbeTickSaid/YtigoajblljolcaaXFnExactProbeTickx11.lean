-- Written by this session's own program (xprint.py) over the kit's print.
import Derived.Test.YtigoajblljolcaaXFnExactProbeTickx0
import Derived.Test.YtigoajblljolcaaXFnExactProbeTickx9
import Derived.Test.YtigoajblljolcaaXFnExactProbeTickx10
namespace Go.Proofs.Ytigoajblljolcaa.XFnExactProbeTick
open Go.RowKit Go.Proofs.YtigoajblljolcaaW.PrintWords Go.Proofs.YtigoajblljolcaaW.PrintLast Go.Proofs.YtigoajblljolcaaW.PrintMore
attribute [local go_sem] max2_int min2_int max_two min_two max_three min_three max_four min_four   -- for this text's walks alone
set_option linter.unusedVariables false
set_option linter.unusedSimpArgs false

/-! ### impl_Prober_next: function 126 -/
mutual
def impl_Prober_next.l0 : Nat → List Int → Int → List Int → Int → Int → Int → Int → Int → Option (Int × List Int × Int × Int × Int × Int × Int)
  | 0, _, _, _, _, _, _, _, _ => none
  | k + 1, x5, x6, x1000, x1001, x1002, x1003, x1004, x1005 => impl_Prober_next.l1 k x5 x6 x1001 x1000 x1001 x1002 x1003 x1004 x1005
def impl_Prober_next.l1 : Nat → List Int → Int → Int → List Int → Int → Int → Int → Int → Int → Option (Int × List Int × Int × Int × Int × Int × Int)
  | 0, _, _, _, _, _, _, _, _, _ => none
  | k + 1, x5, x6, x7, x1000, x1001, x1002, x1003, x1004, x1005 => if x7 < (x1000.length : Int) then (if 0 ≤ x7 then ((slices_Contains_int_int.f k x5 (rd x1000 x7)).bind fun t312 => (if t312 = true then (some (rd x1000 x7, x1000, wrap64 (x7 + 1), x1002, x1003, x1004, x1005)) else (impl_Prober_next.l1 k x5 x6 (wrap64 (x7 + 1)) x1000 x1001 x1002 x1003 x1004 x1005))) else (none)) else ((impl_Shuffle.f k x5 x1002).bind fun bt314 => (if x6 = 1 then (some ((-1), bt314.1, 0, bt314.2, x1003, x1004, x1005)) else (impl_Prober_next.l0 k x5 (wrap64 (x6 + 1)) bt314.1 0 bt314.2 x1003 x1004 x1005)))
end
def impl_Prober_next.f (k : Nat) (l0_0 : List Int) (a0_1 : Int) (a0_2 : Int) (a0_3 : Int) (a0_4 : Int) (a0_5 : Int) (a1_0 : Int) (l1_1 : List (S82)) : Option (Int × List Int × Int × Int × Int × Int × Int) := (impl_Table_others.f k a1_0 l1_1 (-1)).bind fun t308 => (impl_Prober_next.l0 k t308 0 l0_0 a0_1 a0_2 a0_3 a0_4 a0_5)
theorem impl_Prober_next.mono_l : ∀ k, (∀ y0 y1 y2 y3 y4 y5 y6 y7, LeO (impl_Prober_next.l0 k y0 y1 y2 y3 y4 y5 y6 y7) (impl_Prober_next.l0 (k + 1) y0 y1 y2 y3 y4 y5 y6 y7)) ∧ (∀ y0 y1 y2 y3 y4 y5 y6 y7 y8, LeO (impl_Prober_next.l1 k y0 y1 y2 y3 y4 y5 y6 y7 y8) (impl_Prober_next.l1 (k + 1) y0 y1 y2 y3 y4 y5 y6 y7 y8))
  | 0 => ⟨fun _ _ _ _ _ _ _ _ r h => by simp [impl_Prober_next.l0] at h, fun _ _ _ _ _ _ _ _ _ r h => by simp [impl_Prober_next.l1] at h⟩
  | k + 1 => by
    obtain ⟨ih0, ih1⟩ := impl_Prober_next.mono_l k
    refine ⟨?_, ?_⟩
    · intro y0 y1 y2 y3 y4 y5 y6 y7
      unfold impl_Prober_next.l0
      repeat' first
      | (with_reducible exact ih0 _ _ _ _ _ _ _ _)
      | (with_reducible exact ih1 _ _ _ _ _ _ _ _ _)
      | (with_reducible exact impl_Shuffle.mono _ _ _)
      | (with_reducible exact impl_Table_others.mono _ _ _ _)
      | (with_reducible exact slices_Contains_int_int.mono _ _ _)
      | (with_reducible exact LeO.refl _)
      | (with_reducible exact LeO.none _)
      | (with_reducible refine LeO.ite ?_ ?_)
      | (with_reducible refine LeO.bind ?_ (fun _ => ?_))
      | exact ih0 _ _ _ _ _ _ _ _
      | exact ih1 _ _ _ _ _ _ _ _ _
      | exact impl_Shuffle.mono _ _ _
      | exact impl_Table_others.mono _ _ _ _
      | exact slices_Contains_int_int.mono _ _ _
      | exact LeO.none _
      | refine LeO.ite ?_ ?_
      | refine LeO.bind ?_ (fun _ => ?_)
    · intro y0 y1 y2 y3 y4 y5 y6 y7 y8
      unfold impl_Prober_next.l1
      repeat' first
      | (with_reducible exact ih0 _ _ _ _ _ _ _ _)
      | (with_reducible exact ih1 _ _ _ _ _ _ _ _ _)
      | (with_reducible exact impl_Shuffle.mono _ _ _)
      | (with_reducible exact impl_Table_others.mono _ _ _ _)
      | (with_reducible exact slices_Contains_int_int.mono _ _ _)
      | (with_reducible exact LeO.refl _)
      | (with_reducible exact LeO.none _)
      | (with_reducible refine LeO.ite ?_ ?_)
      | (with_reducible refine LeO.bind ?_ (fun _ => ?_))
      | exact ih0 _ _ _ _ _ _ _ _
      | exact ih1 _ _ _ _ _ _ _ _ _
      | exact impl_Shuffle.mono _ _ _
      | exact impl_Table_others.mono _ _ _ _
      | exact slices_Contains_int_int.mono _ _ _
      | exact LeO.none _
      | refine LeO.ite ?_ ?_
      | refine LeO.bind ?_ (fun _ => ?_)
theorem impl_Prober_next.mono : ∀ a0 a1 a2 a3 a4 a5 a6 a7 k, LeO (impl_Prober_next.f k a0 a1 a2 a3 a4 a5 a6 a7) (impl_Prober_next.f (k + 1) a0 a1 a2 a3 a4 a5 a6 a7) := by
  intro a0 a1 a2 a3 a4 a5 a6 a7 k
  obtain ⟨ih0, ih1⟩ := impl_Prober_next.mono_l k
  unfold impl_Prober_next.f
  repeat' first
      | (with_reducible exact ih0 _ _ _ _ _ _ _ _)
      | (with_reducible exact ih1 _ _ _ _ _ _ _ _ _)
      | (with_reducible exact impl_Shuffle.mono _ _ _)
      | (with_reducible exact impl_Table_others.mono _ _ _ _)
      | (with_reducible exact slices_Contains_int_int.mono _ _ _)
      | (with_reducible exact LeO.refl _)
      | (with_reducible exact LeO.none _)
      | (with_reducible refine LeO.ite ?_ ?_)
      | (with_reducible refine LeO.bind ?_ (fun _ => ?_))
      | exact ih0 _ _ _ _ _ _ _ _
      | exact ih1 _ _ _ _ _ _ _ _ _
      | exact impl_Shuffle.mono _ _ _
      | exact impl_Table_others.mono _ _ _ _
      | exact slices_Contains_int_int.mono _ _ _
      | exact LeO.none _
      | refine LeO.ite ?_ ?_
      | refine LeO.bind ?_ (fun _ => ?_)
set_option maxHeartbeats 8000000 in
set_option maxRecDepth 100000 in
theorem impl_Prober_next.calls (k : Nat) (g : Nat) (P0_0_ : Nat → Prop) (u9000_ : Value) (l0_0 : List Int) (a0_1 : Int) (a0_2 : Int) (a0_3 : Int) (a0_4 : Int) (a0_5 : Int) (a1_0 : Int) (A1_1 : Option Addr) (c1_1 : Nat) (l1_1 : List (S82)) (r1 : Int) (r2 : List Int) (r3 : Int) (r4 : Int) (r5 : Int) (r6 : Int) (r7 : Int) (w0 w : World) (hB : Below w0.heap.size w0 w) (hbx : w.heap[g]? = some (.cells #[u9000_, .int .i64 a0_1, .int .i64 a0_2, .int .i64 a0_3, .int .i64 a0_4, .int .i64 a0_5] 90 (0, 0))) (hgx : w0.heap.size ≤ g) (ho0_0 : Kd.R (Kd.int .i64) 3 w w0.heap.size P0_0_ u9000_ l0_0) (hr1_1 : ∀ W_, Kept w W_ (fun k_ => (P0_0_ k_) ∨ k_ = g) → Kd.C k82 W_ A1_1 l1_1.length l1_1) (hc1_1 : l1_1.length ≤ c1_1) (h : impl_Prober_next.f k l0_0 a0_1 a0_2 a0_3 a0_4 a0_5 a1_0 l1_1 = some (r1, r2, r3, r4, r5, r6, r7)) :
    Calls Try.prog 126 #[.pointer (some ⟨g, 0, none⟩), .agg #[.int .i64 a1_0, .slice A1_1 l1_1.length c1_1]] w fun e w' => e = .returned (.int .i64 r1) ∧ ∃ v1_ : Value, Kd.R (Kd.int .i64) 3 w' w0.heap.size (fun k_ => (P0_0_ k_ ∨ w.heap.size ≤ k_)) v1_ r2 ∧ w'.heap[g]? = some (.cells #[v1_, .int .i64 r3, .int .i64 r4, .int .i64 r5, .int .i64 r6, .int .i64 r7] 90 (0, 0)) ∧ Below w0.heap.size w0 w' ∧ Kept w w' (fun k_ => (P0_0_ k_) ∨ k_ = g) := by
  have hu41 := Try.underlying41
  have BK0 := Aside0.mk hbx
  have GE0 := Aside0.mk hgx
  clear hbx hgx
  have HO0_0 := Aside0.mk (show Kd.R (Kd.int .i64) 3 w w0.heap.size (fun k_ => (P0_0_ k_ ∨ w.heap.size ≤ k_)) u9000_ l0_0 from Kd.R_mono ho0_0 (fun k_ hk => (.inl hk)))
  have HR1_1 := Aside0.mk hr1_1
  have HC1_1 := Aside0.mk hc1_1
  clear hr1_1 hc1_1
  have HK := Aside0.mk (Kept.refl w (fun k_ => (P0_0_ k_) ∨ k_ = g))
  have HW0 := Aside0.mk hB.size
  have HB := Aside0.mk hB
  clear hB
  have H : ((impl_Table_others.f k a1_0 l1_1 (-1)).bind fun t308 => (impl_Prober_next.l0 k t308 0 l0_0 a0_1 a0_2 a0_3 a0_4 a0_5)) = some (r1, r2, r3, r4, r5, r6, r7) := h
  clear h
  replace H := Option.bind_eq_some_iff.mp H
  obtain ⟨t308, A30, H⟩ := H
  have A3 := Aside0.mk A30
  clear A30
  have H' := Aside0.mk H
  clear H
  go_enter Try.func126, Try.ntmps126
  go_wp2_with (first | ((with_reducible refine gate_dst (N := 3) rfl ?_); refine box_event ?hg (N := 3) ?hd (cs := #[.int .i64 a1_0, .slice A1_1 l1_1.length c1_1]) (t := 41) ?hr ?_; (case hd => rfl); (case hg => rfl); (case hr => first | (go_simp; done) | (go_simp; rfl)); intro gb307 hg w4 hbox hb; have n_ := an (Kd.R_below (by exact Kd.R_nw HO0_0.out) hb) (an (blk_below (blk_nw BK0.out) hb) (an (Kept.below (S := (fun k_ => (P0_0_ k_) ∨ k_ = g)) (by exact kpt) hb) (an (below_step (by exact bel0) hb) (an (hbox) (an ((by rw [hg]; exact (by first | exact HK.out.1 | exact (show Kept w _ (fun k_ => (P0_0_ k_) ∨ k_ = g) from by exact kpt).1) : w.heap.size ≤ gb307)) (an ((by rw [hg]; exact (below_size (by exact bel0)) : w0.heap.size ≤ gb307)) (an ((by rw [hg]; exact Nat.ne_of_lt (blk_lt (blk_nw BK0.out)) : g ≠ gb307)) (an ((by rw [hg]; exact Nat.ne_of_gt (blk_lt (blk_nw BK0.out)) : gb307 ≠ g)) (trivial))))))))); clear HO0_0 BK0 HK HB; obtain ⟨HO0_0, BK0, HK, HB, BK307, GW307, GE307, NB0_307, NB307_0, -⟩ := n_; clear hb hbox hg; have hnb5 := NB307_0.out; have hnc5 := NB0_307.out; obtain ⟨hcz6_0, hcz6_1⟩ := blkz2 BK307.out; have hfz6_0 := blkf BK307.out) | ((with_reducible refine gate_callee (f := 161) rfl ?_); refine goesL_ (some 9) rfl rfl Try.func161 (by kernel_rfl) rfl #[.agg #[.int .i64 a1_0, .slice A1_1 l1_1.length c1_1], .int .i64 (-1)] rfl (by (try simp only [List.map_toArray, List.map_cons, List.map_nil]); first | done | rfl | (simp only [List.length_drop, List.length_take]; rfl)) ?_; (with_reducible refine (impl_Table_others.calls k a1_0 _ _ l1_1 (-1) t308 _ ?side1 ?side2 A3.out).mono ?_); (case side1 => exact Kd.C_kept_now HR1_1.out (by exact kpt)); (case side2 => exact HC1_1.out); rintro e w7 ⟨v309, rfl, ho0, hb⟩; refine ⟨_, rfl, ?_⟩; have n_ := an (Kd.R_elder' (by exact Kd.R_nw HO0_0.out) (Kd.R_base ho0) hb) (an (Kd.R_lower (Kd.R_new' (Kd.R_newM (M := fun k_ => (P0_0_ k_ ∨ w.heap.size ≤ k_)) ho0 (by first | exact HK.out.1 | exact (show Kept w _ (fun k_ => (P0_0_ k_) ∨ k_ = g) from by exact kpt).1) (fun k_ h_ => .inr h_)) (Kd.R_lt (by exact Kd.R_nw HO0_0.out))) (below_size (by exact bel0))) (an (blk_below (blk_nw BK0.out) hb) (an (blk_below (blk_nw BK307.out) hb) (an (Kept.below (S := (fun k_ => (P0_0_ k_) ∨ k_ = g)) (by exact kpt) hb) (an (below_step (by exact bel0) hb) (trivial)))))); clear HO0_0 BK0 BK307 HK HB; obtain ⟨HO0_0, HO310, BK0, BK307, HK, HB, -⟩ := n_; (try clear hb); (try clear hb2); (try clear hk); (try clear hi); (try clear ho0)))
  go_loopg [6] k (fun kq v6 w' => ∃ (x6_1 : Int) (x1000_1 : List Int) (x1001_1 : Int) (x1002_1 : Int) (u1000 : Value), v6 = .int .i64 x6_1 ∧ Aside0 (impl_Prober_next.l0 kq t308 x6_1 x1000_1 x1001_1 x1002_1 a0_3 a0_4 a0_5 = some (r1, r2, r3, r4, r5, r6, r7)) ∧ Aside0 (kq ≤ k) ∧ Aside0 (Kd.R (Kd.int .i64) 3 w' w0.heap.size (fun k_ => (P0_0_ k_ ∨ w.heap.size ≤ k_) ∧ some k_ ≠ (u1000 : Value).ownBlock) v309 t308) ∧ Aside0 (Kd.R (Kd.int .i64) 3 w' w0.heap.size (fun k_ => (P0_0_ k_ ∨ w.heap.size ≤ k_) ∧ some k_ ≠ (v309 : Value).ownBlock) u1000 x1000_1) ∧ Aside0 (w'.heap[g]? = some (.cells #[u1000, .int .i64 x1001_1, .int .i64 x1002_1, .int .i64 a0_3, .int .i64 a0_4, .int .i64 a0_5] 90 (0, 0))) ∧ Aside0 (w'.heap[gb307]? = some (.cells #[.int .i64 a1_0, (.slice A1_1 l1_1.length c1_1)] 41 (0, 0))) ∧ Aside0 (Kept w w' (fun k_ => (P0_0_ k_) ∨ k_ = g)) ∧ Aside0 (Below w0.heap.size w0 w'))
  case atStart => exact ⟨(0), (l0_0), (a0_1), (a0_2), (u9000_), (by first | rfl | (simp; done) | (simp [*]; done)), H', ⟨Nat.le_refl _⟩, ⟨by exact Kd.R_nw (Kd.R_mono HO310.out (fun _ hk => ⟨hk.1.1, hk.2⟩))⟩, ⟨by exact Kd.R_nw HO0_0.out⟩, ⟨by exact blk_nw BK0.out⟩, ⟨by exact blk_nw BK307.out⟩, ⟨by exact kpt⟩, ⟨by exact bel0⟩⟩
  case round =>
    clear H'
    try clear c1
    try clear p2
    try clear c5
    try clear hcz6_0
    try clear hcz6_1
    try clear hfz6_0
    try clear hfz6_1
    obtain ⟨x6_1, x1000_1, x1001_1, x1002_1, u1000, rfl, HA, HK1, HO_5, HO_1000, BK0, BK307, HK, HB⟩ := hrel
    cases gk with
    | zero => exact absurd HA.out (by simp [impl_Prober_next.l0])
    | succ k1 =>
      have H := HA.out
      clear HA
      simp only [impl_Prober_next.l0] at H
      have H' := Aside0.mk H
      clear H
      have hnb8 := NB0_307.out
      have hnc8 := NB307_0.out
      obtain ⟨hcz9_0, hcz9_1, hcz9_2, hcz9_3, hcz9_4, hcz9_5⟩ := blkz6 BK0.out
      have hfz9_0 := blkf BK0.out
      go_wp2
      go_loopg [7] k1 (fun kq v7 w' => ∃ (x7_2 : Int) (x1001_2 : Int), v7 = .int .i64 x7_2 ∧ Aside0 (impl_Prober_next.l1 kq t308 x6_1 x7_2 x1000_1 x1001_2 x1002_1 a0_3 a0_4 a0_5 = some (r1, r2, r3, r4, r5, r6, r7)) ∧ Aside0 (kq ≤ k1) ∧ Aside0 (Kd.R (Kd.int .i64) 3 w' w0.heap.size (fun k_ => (P0_0_ k_ ∨ w.heap.size ≤ k_) ∧ some k_ ≠ (u1000 : Value).ownBlock) v309 t308) ∧ Aside0 (Kd.R (Kd.int .i64) 3 w' w0.heap.size (fun k_ => (P0_0_ k_ ∨ w.heap.size ≤ k_) ∧ some k_ ≠ (v309 : Value).ownBlock) u1000 x1000_1) ∧ Aside0 (w'.heap[g]? = some (.cells #[u1000, .int .i64 x1001_2, .int .i64 x1002_1, .int .i64 a0_3, .int .i64 a0_4, .int .i64 a0_5] 90 (0, 0))) ∧ Aside0 (w'.heap[gb307]? = some (.cells #[.int .i64 a1_0, (.slice A1_1 l1_1.length c1_1)] 41 (0, 0))) ∧ Aside0 (Kept w w' (fun k_ => (P0_0_ k_) ∨ k_ = g)) ∧ Aside0 (Below w0.heap.size w0 w'))
      case atStart => exact ⟨(x1001_1), (x1001_1), (by first | rfl | (simp; done) | (simp [*]; done)), H', ⟨Nat.le_refl _⟩, ⟨by exact Kd.R_nw HO_5.out⟩, ⟨by exact Kd.R_nw HO_1000.out⟩, ⟨by exact blk_nw BK0.out⟩, ⟨by exact blk_nw BK307.out⟩, ⟨by exact kpt⟩, ⟨by exact bel0⟩⟩
      case round =>
        clear H'
        try clear c1
        try clear p2
        try clear c5
        try clear c8
        try clear hcz6_0
        try clear hcz6_1
        try clear hcz9_0
        try clear hcz9_1
        try clear hcz9_2
        try clear hcz9_3
        try clear hcz9_4
        try clear hcz9_5
        try clear hfz6_0
        try clear hfz6_1
        try clear hfz9_0
        try clear hfz9_1
        try clear hfz9_2
        try clear hfz9_3
        try clear hfz9_4
        try clear hfz9_5
        try clear p2
        obtain ⟨x7_2, x1001_2, rfl, HA, HK2, HO_5, HO_1000, BK0, BK307, HK, HB⟩ := hrel
        cases gk with
        | zero => exact absurd HA.out (by simp [impl_Prober_next.l1])
        | succ k2 =>
          have H := HA.out
          clear HA
          simp only [impl_Prober_next.l1] at H
          by_cases c10 : x7_2 < (x1000_1.length : Int)
          · rw [if_pos c10] at H
            have c10b0 : decide (x7_2 < (x1000_1.length : Int)) = true := decide_eq_true c10
            clear c10
            (try simp only [c10b0])
            by_cases c11 : 0 ≤ x7_2
            · rw [if_pos c11] at H
              have c11b0 : decide (0 ≤ x7_2) = true := decide_eq_true c11
              clear c11
              (try simp only [c11b0])
              replace H := Option.bind_eq_some_iff.mp H
              obtain ⟨t312, A120, H⟩ := H
              have A12 := Aside0.mk A120
              clear A120
              have hnb13 := NB0_307.out
              have hnc13 := NB307_0.out
              obtain ⟨hcz14_0, hcz14_1, hcz14_2, hcz14_3, hcz14_4, hcz14_5⟩ := blkz6 BK0.out
              have hfz14_0 := blkf BK0.out
              obtain ⟨Ao15, co15, eo15⟩ := Kd.R_slice HO_1000.out
              subst eo15
              have p311 : 0 ≤ (x7_2 : Int) := of_decide_eq_true (by first | (with_reducible assumption) | assumption)
              have q311 : x7_2 < (x1000_1.length : Int) := of_decide_eq_true (by first | (with_reducible assumption) | assumption)
              obtain ⟨ad311, e311, hx311_0⟩ := Kd.at_int (Kd.R_reads' HO_1000.out).2.2 x7_2 p311 q311
              cases e311
              replace p311 := eq_true p311
              replace q311 := eq_true q311
              obtain ⟨Ao16, co16, eo16⟩ := Kd.R_slice HO_5.out
              subst eo16
              replace H := Aside0.mk H
              go_wp2_with (first | ((with_reducible refine gate_callee (f := 145) rfl ?_); refine goesL_ (some 33) rfl rfl Try.func145 (by kernel_rfl) rfl #[.slice Ao16 t308.length co16, .int .i64 (rd x1000_1 x7_2)] rfl (by (try simp only [List.map_toArray, List.map_cons, List.map_nil]); first | done | rfl | (simp only [List.length_drop, List.length_take]; rfl)) ?_; (with_reducible refine (slices_Contains_int_int.calls k2 _ _ t308 (rd x1000_1 x7_2) t312 _ ?side1 ?side2 A12.out).mono ?_); (case side1 => repeat (first | exact (Kd.R_reads' HO_5.out).2.2 | (with_reducible refine Kd.C_alloc ?_ _) | (with_reducible refine Kd.C_drewN ?_ _) | (with_reducible refine Kd.C_drew ?_))); (case side2 => exact (Kd.R_reads' HO_5.out).2.1); rintro e w' ⟨rfl, ⟨nd, rfl⟩⟩; refine ⟨_, rfl, ?_⟩; (try (rw [drewN_self wr]; generalize hq_ : World.drewN wr _ = wr; have n0_ : Aside0 (Kd.R (Kd.int .i64) 3 wr w0.heap.size (fun k_ => (P0_0_ k_ ∨ w.heap.size ≤ k_) ∧ some k_ ≠ (.slice Ao16 t308.length co16 : Value).ownBlock) (.slice (some ad311) x1000_1.length co15) x1000_1) := ⟨by rw [← hq_]; exact (by exact Kd.R_nw HO_1000.out)⟩; have n1_ : Aside0 (Kd.R (Kd.int .i64) 3 wr w0.heap.size (fun k_ => (P0_0_ k_ ∨ w.heap.size ≤ k_) ∧ some k_ ≠ (.slice (some ad311) x1000_1.length co15 : Value).ownBlock) (.slice Ao16 t308.length co16) t308) := ⟨by rw [← hq_]; exact (by exact Kd.R_nw HO_5.out)⟩; have n2_ : Aside0 (wr.heap[g]? = some (.cells #[.slice (some ad311) x1000_1.length co15, .int .i64 x1001_2, .int .i64 x1002_1, .int .i64 a0_3, .int .i64 a0_4, .int .i64 a0_5] 90 (0, 0))) := ⟨by rw [← hq_]; exact (by exact blk_nw BK0.out)⟩; have n3_ : Aside0 (wr.heap[gb307]? = some (.cells #[.int .i64 a1_0, .slice A1_1 l1_1.length c1_1] 41 (0, 0))) := ⟨by rw [← hq_]; exact (by exact blk_nw BK307.out)⟩; have n4_ : Aside0 (Kept w wr (fun k_ => (P0_0_ k_) ∨ k_ = g)) := ⟨by rw [← hq_]; exact (by exact kpt)⟩; have n5_ : Aside0 (Below w0.heap.size w0 wr) := ⟨by rw [← hq_]; exact (by exact bel0)⟩; clear HO_1000 HO_5 BK0 BK307 HK HB hq_; have HO_1000 := n0_; have HO_5 := n1_; have BK0 := n2_; have BK307 := n3_; have HK := n4_; have HB := n5_; clear n0_ n1_ n2_ n3_ n4_ n5_)); refine Stop.out ?_))
              refine Stop.mk ?_
              replace H := H.out
              by_cases c17 : t312 = true
              · subst c17
                rw [if_pos rfl] at H
                simp only [Option.some.injEq, Prod.mk.injEq] at H
                obtain ⟨rfl, rfl, rfl, rfl, rfl, rfl, rfl⟩ := H
                have hnb18 := NB0_307.out
                have hnc18 := NB307_0.out
                obtain ⟨hcz19_0, hcz19_1, hcz19_2, hcz19_3, hcz19_4, hcz19_5⟩ := blkz6 BK0.out
                have hfz19_0 := blkf BK0.out
                have p313 : 0 ≤ (x7_2 : Int) := of_decide_eq_true (by first | (with_reducible assumption) | assumption)
                have q313 : x7_2 < (x1000_1.length : Int) := of_decide_eq_true (by first | (with_reducible assumption) | assumption)
                obtain ⟨ad313, e313, hx313_0⟩ := Kd.at_int (Kd.R_reads' HO_1000.out).2.2 x7_2 p313 q313
                obtain rfl : ad311 = ad313 := (by injection e313)
                have hn313_0 : ad311.block ≠ g := Kd.own_blk (Kd.R_ne HO_1000.out BK0.out (by decide))
                replace hx313_0 := (cell_far (p := ⟨g, 1, none⟩) (by first | (rw [add_block]; exact hn313_0) | (show (Addr.add _ _).block ≠ _; rw [add_block]; exact hn313_0) | exact hn313_0) (.int .i64 (wrap64 (x7_2 + 1)))).trans hx313_0
                clear hn313_0
                replace p313 := eq_true p313
                replace q313 := eq_true q313
                go_wp2
                go_ret
                exact ⟨by first | rfl | (simp [errW_none, errW_some] <;> rfl) | (simp [*, errW_none, errW_some] <;> rfl), (.slice (some ad311) x1000_1.length co15), by exact Kd.R_mono (Kd.R_farN HO_1000.out BK0.out) (fun _ hk => hk.1), by (with_reducible repeat (first | refine blk_drewN ?_ _ | refine blk_drew ?_ | refine blk_alloc ?_ _)); refine blk_put (cs := #[.slice (some ad311) x1000_1.length co15, .int .i64 x1001_2, .int .i64 x1002_1, .int .i64 a0_3, .int .i64 a0_4, .int .i64 a0_5]) ?_ 1 _ rfl; (with_reducible repeat (first | refine blk_drewN ?_ _ | refine blk_drew ?_ | refine blk_alloc ?_ _)); exact BK0.out, by exact bel0, by exact kpt⟩
              · replace c17 := Bool.eq_false_iff.mpr c17
                subst c17
                rw [if_neg (show ¬ (false = true) by decide)] at H
                have H' := Aside0.mk H
                clear H
                go_wp2
                go_roundg k2
                case measure => have := HK1.out; have := HK2.out; omega
                case rel => exact ⟨(wrap64 (x7_2 + 1)), (x1001_2), (by first | rfl | (simp; done) | (simp [*]; done)), H', ⟨by have := HK1.out; have := HK2.out; omega⟩, ⟨by exact Kd.R_nw HO_5.out⟩, ⟨by exact Kd.R_nw HO_1000.out⟩, ⟨by exact blk_nw BK0.out⟩, ⟨by exact blk_nw BK307.out⟩, ⟨by exact kpt⟩, ⟨by exact bel0⟩⟩
            · rw [if_neg c11] at H
              exact absurd H (by simp)
          · rw [if_neg c10] at H
            have c10b0 : decide (x7_2 < (x1000_1.length : Int)) = false := decide_eq_false c10
            clear c10
            (try simp only [c10b0])
            replace H := Option.bind_eq_some_iff.mp H
            obtain ⟨⟨t314, t315⟩, A200, H⟩ := H
            replace H : (if x6_1 = 1 then (some ((-1), t314, 0, t315, a0_3, a0_4, a0_5)) else (impl_Prober_next.l0 k2 t308 (wrap64 (x6_1 + 1)) t314 0 t315 a0_3 a0_4 a0_5)) = some (r1, r2, r3, r4, r5, r6, r7) := H
            have A20 := Aside0.mk A200
            clear A200
            have hnb21 := NB0_307.out
            have hnc21 := NB307_0.out
            obtain ⟨hcz22_0, hcz22_1, hcz22_2, hcz22_3, hcz22_4, hcz22_5⟩ := blkz6 BK0.out
            have hfz22_0 := blkf BK0.out
            obtain ⟨Ao23, co23, eo23⟩ := Kd.R_slice HO_1000.out
            subst eo23
            obtain ⟨Ao24, co24, eo24⟩ := Kd.R_slice HO_5.out
            subst eo24
            replace H := Aside0.mk H
            go_wp2_with (first | ((with_reducible refine gate_callee (f := 160) rfl ?_); refine goesL_ (some 54) rfl rfl Try.func160 (by kernel_rfl) rfl #[.slice Ao24 t308.length co24, .int .i64 x1002_1] rfl (by (try simp only [List.map_toArray, List.map_cons, List.map_nil]); first | done | rfl | (simp only [List.length_drop, List.length_take]; rfl)) ?_; (with_reducible refine (impl_Shuffle.calls k2 _ _ t308 x1002_1 t314 t315 _ ?side1 ?side2 A20.out).mono ?_); (case side1 => repeat (first | exact (Kd.R_reads' HO_5.out).2.2 | (with_reducible refine Kd.C_alloc ?_ _) | (with_reducible refine Kd.C_drewN ?_ _) | (with_reducible refine Kd.C_drew ?_))); (case side2 => exact (Kd.R_reads' HO_5.out).2.1); rintro e w25 ⟨v316, rfl, ho0, hb⟩; refine ⟨_, rfl, ?_⟩; have n_ := an (Kd.R_elder' (by exact Kd.R_nw HO_5.out) (Kd.R_base ho0) hb) (an (Kd.R_elder' (by exact Kd.R_nw HO_1000.out) (Kd.R_base ho0) hb) (an (Kd.R_lower (Kd.R_new' (Kd.R_new' (Kd.R_newM (M := fun k_ => (P0_0_ k_ ∨ w.heap.size ≤ k_)) ho0 (by first | exact HK.out.1 | exact (show Kept w _ (fun k_ => (P0_0_ k_) ∨ k_ = g) from by exact kpt).1) (fun k_ h_ => .inr h_)) (Kd.R_lt (by exact Kd.R_nw HO_5.out))) (Kd.R_lt (by exact Kd.R_nw HO_1000.out))) (below_size (by exact bel0))) (an (blk_below (blk_nw BK0.out) hb) (an (blk_below (blk_nw BK307.out) hb) (an (Kept.below (S := (fun k_ => (P0_0_ k_) ∨ k_ = g)) (by exact kpt) hb) (an (below_step (by exact bel0) hb) (trivial))))))); clear HO_5 HO_1000 BK0 BK307 HK HB; obtain ⟨HO_5, HO_1000, HO317, BK0, BK307, HK, HB, -⟩ := n_; (try clear hb); (try clear hb2); (try clear hk); (try clear hi); (try clear ho0); obtain ⟨Ao26, co26, eo26⟩ := Kd.R_slice HO317.out; subst eo26; obtain ⟨hcz27_0, hcz27_1, hcz27_2, hcz27_3, hcz27_4, hcz27_5⟩ := blkz6 BK0.out; have hfz27_0 := blkf BK0.out; refine Stop.out ?_))
            refine Stop.mk ?_
            replace H := H.out
            by_cases c28 : x6_1 = 1
            · rw [if_pos c28] at H
              have c28b0 : (x6_1 == 1) = true := beq_iff_eq.mpr c28
              have c28b1 : (x6_1 != 1) = false := bne_eq_false_iff_eq.mpr c28
              clear c28
              simp only [Option.some.injEq, Prod.mk.injEq] at H
              obtain ⟨rfl, rfl, rfl, rfl, rfl, rfl, rfl⟩ := H
              go_wp2
              go_ret
              exact ⟨by first | rfl | (simp [errW_none, errW_some] <;> rfl) | (simp [*, errW_none, errW_some] <;> rfl), (.slice Ao26 t314.length co26), by exact Kd.R_mono (Kd.R_farN HO317.out BK0.out) (fun _ hk => hk.1.1.1), by (with_reducible repeat (first | refine blk_drewN ?_ _ | refine blk_drew ?_ | refine blk_alloc ?_ _)); refine blk_put (cs := #[.slice Ao26 t314.length co26, .int .i64 x1001_2, .int .i64 t315, .int .i64 a0_3, .int .i64 a0_4, .int .i64 a0_5]) ?_ 1 _ rfl; (with_reducible repeat (first | refine blk_drewN ?_ _ | refine blk_drew ?_ | refine blk_alloc ?_ _)); refine blk_put (cs := #[.slice Ao26 t314.length co26, .int .i64 x1001_2, .int .i64 x1002_1, .int .i64 a0_3, .int .i64 a0_4, .int .i64 a0_5]) ?_ 2 _ rfl; (with_reducible repeat (first | refine blk_drewN ?_ _ | refine blk_drew ?_ | refine blk_alloc ?_ _)); refine blk_put (cs := #[.slice Ao23 x1000_1.length co23, .int .i64 x1001_2, .int .i64 x1002_1, .int .i64 a0_3, .int .i64 a0_4, .int .i64 a0_5]) ?_ 0 _ rfl; (with_reducible repeat (first | refine blk_drewN ?_ _ | refine blk_drew ?_ | refine blk_alloc ?_ _)); exact BK0.out, by exact bel0, by exact kpt⟩
            · rw [if_neg c28] at H
              have c28b0 : (x6_1 == 1) = false := beq_eq_false_iff_ne.mpr c28
              have c28b1 : (x6_1 != 1) = true := bne_iff_ne.mpr c28
              have H' := Aside0.mk H
              clear H
              go_wp2
              go_roundg k2
              case measure => have := HK1.out; have := HK2.out; omega
              case rel => exact ⟨(wrap64 (x6_1 + 1)), (t314), (0), (t315), (.slice Ao26 t314.length co26), (by first | rfl | (simp; done) | (simp [*]; done)), H', ⟨by have := HK1.out; have := HK2.out; omega⟩, ⟨by exact Kd.R_mono (Kd.R_farN HO_5.out BK0.out) (fun _ hk => ⟨hk.1.1, hk.2⟩)⟩, ⟨by exact Kd.R_mono (Kd.R_farN HO317.out BK0.out) (fun _ hk => ⟨hk.1.1.1, hk.1.2⟩)⟩, ⟨by (with_reducible repeat (first | refine blk_drewN ?_ _ | refine blk_drew ?_ | refine blk_alloc ?_ _)); refine blk_put (cs := #[.slice Ao26 t314.length co26, .int .i64 x1001_2, .int .i64 t315, .int .i64 a0_3, .int .i64 a0_4, .int .i64 a0_5]) ?_ 1 _ rfl; (with_reducible repeat (first | refine blk_drewN ?_ _ | refine blk_drew ?_ | refine blk_alloc ?_ _)); refine blk_put (cs := #[.slice Ao26 t314.length co26, .int .i64 x1001_2, .int .i64 x1002_1, .int .i64 a0_3, .int .i64 a0_4, .int .i64 a0_5]) ?_ 2 _ rfl; (with_reducible repeat (first | refine blk_drewN ?_ _ | refine blk_drew ?_ | refine blk_alloc ?_ _)); refine blk_put (cs := #[.slice Ao23 x1000_1.length co23, .int .i64 x1001_2, .int .i64 x1002_1, .int .i64 a0_3, .int .i64 a0_4, .int .i64 a0_5]) ?_ 0 _ rfl; (with_reducible repeat (first | refine blk_drewN ?_ _ | refine blk_drew ?_ | refine blk_alloc ?_ _)); exact BK0.out⟩, ⟨by exact blk_kb BK307.out NB307_0.out⟩, ⟨by exact kpt⟩, ⟨by exact bel0⟩⟩

/-! ### impl_Prober_idle: function 163 -/
def impl_Prober_idle.f (l0_0 : List Int) (a0_1 : Int) (a0_2 : Int) (a0_3 : Int) (a0_4 : Int) (a0_5 : Int) : Option (List Int × Int × Int × Int × Int × Int) := some (l0_0, a0_1, a0_2, 0, 0, 0)
set_option maxHeartbeats 8000000 in
set_option maxRecDepth 100000 in
theorem impl_Prober_idle.calls (g : Nat) (P0_0_ : Nat → Prop) (u9000_ : Value) (l0_0 : List Int) (a0_1 : Int) (a0_2 : Int) (a0_3 : Int) (a0_4 : Int) (a0_5 : Int) (r1 : List Int) (r2 : Int) (r3 : Int) (r4 : Int) (r5 : Int) (r6 : Int) (w0 w : World) (hB : Below w0.heap.size w0 w) (hbx : w.heap[g]? = some (.cells #[u9000_, .int .i64 a0_1, .int .i64 a0_2, .int .i64 a0_3, .int .i64 a0_4, .int .i64 a0_5] 90 (0, 0))) (hgx : w0.heap.size ≤ g) (ho0_0 : Kd.R (Kd.int .i64) 3 w w0.heap.size P0_0_ u9000_ l0_0) (h : impl_Prober_idle.f l0_0 a0_1 a0_2 a0_3 a0_4 a0_5 = some (r1, r2, r3, r4, r5, r6)) :
    Calls Try.prog 163 #[.pointer (some ⟨g, 0, none⟩)] w fun e w' => e = .returned (.tuple #[]) ∧ ∃ v0_ : Value, Kd.R (Kd.int .i64) 3 w' w0.heap.size (fun k_ => (P0_0_ k_ ∨ w.heap.size ≤ k_)) v0_ r1 ∧ w'.heap[g]? = some (.cells #[v0_, .int .i64 r2, .int .i64 r3, .int .i64 r4, .int .i64 r5, .int .i64 r6] 90 (0, 0)) ∧ Below w0.heap.size w0 w' ∧ Kept w w' (fun k_ => (P0_0_ k_) ∨ k_ = g) := by
  have BK0 := Aside0.mk hbx
  have GE0 := Aside0.mk hgx
  clear hbx hgx
  have HO0_0 := Aside0.mk (show Kd.R (Kd.int .i64) 3 w w0.heap.size (fun k_ => (P0_0_ k_ ∨ w.heap.size ≤ k_)) u9000_ l0_0 from Kd.R_mono ho0_0 (fun k_ hk => (.inl hk)))
  have HK := Aside0.mk (Kept.refl w (fun k_ => (P0_0_ k_) ∨ k_ = g))
  have HW0 := Aside0.mk hB.size
  have HB := Aside0.mk hB
  clear hB
  have H : (some (l0_0, a0_1, a0_2, 0, 0, 0)) = some (r1, r2, r3, r4, r5, r6) := h
  clear h
  simp only [Option.some.injEq, Prod.mk.injEq] at H
  obtain ⟨rfl, rfl, rfl, rfl, rfl, rfl⟩ := H
  obtain ⟨hcz2_0, hcz2_1, hcz2_2, hcz2_3, hcz2_4, hcz2_5⟩ := blkz6 BK0.out
  have hfz2_0 := blkf BK0.out
  go_enter Try.func163, Try.ntmps163
  go_wp2
  first | go_end0 | ((try simp only [Exit.inBlock, Exit.then]); refine bodyPost_ret (results_none rfl _ _ _) rfl ?_)
  exact ⟨by first | rfl | (simp [errW_none, errW_some] <;> rfl) | (simp [*, errW_none, errW_some] <;> rfl), (u9000_), by exact (Kd.R_farN HO0_0.out BK0.out), by (with_reducible repeat (first | refine blk_drewN ?_ _ | refine blk_drew ?_ | refine blk_alloc ?_ _)); refine blk_put (cs := #[u9000_, .int .i64 a0_1, .int .i64 a0_2, .int .i64 0, .int .i64 0, .int .i64 a0_5]) ?_ 5 _ rfl; (with_reducible repeat (first | refine blk_drewN ?_ _ | refine blk_drew ?_ | refine blk_alloc ?_ _)); refine blk_put (cs := #[u9000_, .int .i64 a0_1, .int .i64 a0_2, .int .i64 0, .int .i64 a0_4, .int .i64 a0_5]) ?_ 4 _ rfl; (with_reducible repeat (first | refine blk_drewN ?_ _ | refine blk_drew ?_ | refine blk_alloc ?_ _)); refine blk_put (cs := #[u9000_, .int .i64 a0_1, .int .i64 a0_2, .int .i64 a0_3, .int .i64 a0_4, .int .i64 a0_5]) ?_ 3 _ rfl; (with_reducible repeat (first | refine blk_drewN ?_ _ | refine blk_drew ?_ | refine blk_alloc ?_ _)); exact BK0.out, by exact bel0, by exact kpt⟩

/-! ### impl_Prober_tick: function 128 -/
def impl_Prober_tick.j0 : Nat → Int → Bool → List Int → Int → Int → Int → Int → Int → Option (Int × Int × List Int × Int × Int × Int × Int × Int)
  | 0, _, _, _, _, _, _, _, _ => none
  | k + 1, x7, x40, x1000, x1001, x1002, x1003, x1004, x1005 => if x40 = true then (some (2, x7, x1000, x1001, x1002, 2, x1004, 0)) else (if x1003 = 2 then (if x1005 ≥ 4 then ((impl_Prober_idle.f x1000 x1001 x1002 x1003 x1004 x1005).bind fun bt328 => (some (3, x7, bt328.1, bt328.2.1, bt328.2.2.1, bt328.2.2.2.1, bt328.2.2.2.2.1, bt328.2.2.2.2.2))) else (some (0, 0, x1000, x1001, x1002, x1003, x1004, x1005))) else (some (0, 0, x1000, x1001, x1002, x1003, x1004, x1005)))
def impl_Prober_tick.f (k : Nat) (l0_0 : List Int) (a0_1 : Int) (a0_2 : Int) (a0_3 : Int) (a0_4 : Int) (a0_5 : Int) (a1_0 : Int) (l1_1 : List (S82)) : Option (Int × Int × List Int × Int × Int × Int × Int × Int) := if a0_3 = 0 then ((impl_Prober_next.f k l0_0 a0_1 a0_2 a0_3 a0_4 a0_5 a1_0 l1_1).bind fun bt319 => (if bt319.1 < 0 then (some (0, 0, bt319.2.1, bt319.2.2.1, bt319.2.2.2.1, bt319.2.2.2.2.1, bt319.2.2.2.2.2.1, bt319.2.2.2.2.2.2)) else (some (1, bt319.1, bt319.2.1, bt319.2.2.1, bt319.2.2.2.1, 1, bt319.1, 0)))) else (if a0_3 = 1 then (impl_Prober_tick.j0 k a0_4 (decide ((wrap64 (a0_5 + 1)) ≥ 2)) l0_0 a0_1 a0_2 a0_3 a0_4 (wrap64 (a0_5 + 1))) else (impl_Prober_tick.j0 k a0_4 false l0_0 a0_1 a0_2 a0_3 a0_4 (wrap64 (a0_5 + 1))))
theorem impl_Prober_tick.mono_l : ∀ k, (∀ y0 y1 y2 y3 y4 y5 y6 y7, LeO (impl_Prober_tick.j0 k y0 y1 y2 y3 y4 y5 y6 y7) (impl_Prober_tick.j0 (k + 1) y0 y1 y2 y3 y4 y5 y6 y7))
  | 0 => fun _ _ _ _ _ _ _ _ r h => by simp [impl_Prober_tick.j0] at h
  | k + 1 => by
    have ih0 := impl_Prober_tick.mono_l k
    · intro y0 y1 y2 y3 y4 y5 y6 y7
      unfold impl_Prober_tick.j0
      repeat' first
      | (with_reducible exact ih0 _ _ _ _ _ _ _ _)
      | (with_reducible exact impl_Prober_next.mono _ _ _ _ _ _ _ _ _)
      | (with_reducible exact LeO.refl _)
      | (with_reducible exact LeO.none _)
      | (with_reducible refine LeO.ite ?_ ?_)
      | (with_reducible refine LeO.bind ?_ (fun _ => ?_))
      | exact ih0 _ _ _ _ _ _ _ _
      | exact impl_Prober_next.mono _ _ _ _ _ _ _ _ _
      | exact LeO.none _
      | refine LeO.ite ?_ ?_
      | refine LeO.bind ?_ (fun _ => ?_)
theorem impl_Prober_tick.mono : ∀ a0 a1 a2 a3 a4 a5 a6 a7 k, LeO (impl_Prober_tick.f k a0 a1 a2 a3 a4 a5 a6 a7) (impl_Prober_tick.f (k + 1) a0 a1 a2 a3 a4 a5 a6 a7) := by
  intro a0 a1 a2 a3 a4 a5 a6 a7 k
  have ih0 := impl_Prober_tick.mono_l k
  unfold impl_Prober_tick.f
  repeat' first
      | (with_reducible exact ih0 _ _ _ _ _ _ _ _)
      | (with_reducible exact impl_Prober_next.mono _ _ _ _ _ _ _ _ _)
      | (with_reducible exact LeO.refl _)
      | (with_reducible exact LeO.none _)
      | (with_reducible refine LeO.ite ?_ ?_)
      | (with_reducible refine LeO.bind ?_ (fun _ => ?_))
      | exact ih0 _ _ _ _ _ _ _ _
      | exact impl_Prober_next.mono _ _ _ _ _ _ _ _ _
      | exact LeO.none _
      | refine LeO.ite ?_ ?_
      | refine LeO.bind ?_ (fun _ => ?_)
set_option maxHeartbeats 8000000 in
set_option maxRecDepth 100000 in
theorem impl_Prober_tick.calls (k : Nat) (g : Nat) (P0_0_ : Nat → Prop) (u9000_ : Value) (l0_0 : List Int) (a0_1 : Int) (a0_2 : Int) (a0_3 : Int) (a0_4 : Int) (a0_5 : Int) (a1_0 : Int) (A1_1 : Option Addr) (c1_1 : Nat) (l1_1 : List (S82)) (r1 : Int) (r2 : Int) (r3 : List Int) (r4 : Int) (r5 : Int) (r6 : Int) (r7 : Int) (r8 : Int) (w0 w : World) (hB : Below w0.heap.size w0 w) (hbx : w.heap[g]? = some (.cells #[u9000_, .int .i64 a0_1, .int .i64 a0_2, .int .i64 a0_3, .int .i64 a0_4, .int .i64 a0_5] 90 (0, 0))) (hgx : w0.heap.size ≤ g) (ho0_0 : Kd.R (Kd.int .i64) 3 w w0.heap.size P0_0_ u9000_ l0_0) (hr1_1 : ∀ W_, Kept w W_ (fun k_ => (P0_0_ k_) ∨ k_ = g) → Kd.C k82 W_ A1_1 l1_1.length l1_1) (hc1_1 : l1_1.length ≤ c1_1) (h : impl_Prober_tick.f k l0_0 a0_1 a0_2 a0_3 a0_4 a0_5 a1_0 l1_1 = some (r1, r2, r3, r4, r5, r6, r7, r8)) :
    Calls Try.prog 128 #[.pointer (some ⟨g, 0, none⟩), .agg #[.int .i64 a1_0, .slice A1_1 l1_1.length c1_1]] w fun e w' => e = .returned (.tuple #[.int .i64 r1, .int .i64 r2]) ∧ ∃ v2_ : Value, Kd.R (Kd.int .i64) 3 w' w0.heap.size (fun k_ => (P0_0_ k_ ∨ w.heap.size ≤ k_)) v2_ r3 ∧ w'.heap[g]? = some (.cells #[v2_, .int .i64 r4, .int .i64 r5, .int .i64 r6, .int .i64 r7, .int .i64 r8] 90 (0, 0)) ∧ Below w0.heap.size w0 w' ∧ Kept w w' (fun k_ => (P0_0_ k_) ∨ k_ = g) := by
  have hu41 := Try.underlying41
  have BK0 := Aside0.mk hbx
  have GE0 := Aside0.mk hgx
  clear hbx hgx
  have HO0_0 := Aside0.mk (show Kd.R (Kd.int .i64) 3 w w0.heap.size (fun k_ => (P0_0_ k_ ∨ w.heap.size ≤ k_)) u9000_ l0_0 from Kd.R_mono ho0_0 (fun k_ hk => (.inl hk)))
  have HR1_1 := Aside0.mk hr1_1
  have HC1_1 := Aside0.mk hc1_1
  clear hr1_1 hc1_1
  have HK := Aside0.mk (Kept.refl w (fun k_ => (P0_0_ k_) ∨ k_ = g))
  have HW0 := Aside0.mk hB.size
  have HB := Aside0.mk hB
  clear hB
  have H : (if a0_3 = 0 then ((impl_Prober_next.f k l0_0 a0_1 a0_2 a0_3 a0_4 a0_5 a1_0 l1_1).bind fun bt319 => (if bt319.1 < 0 then (some (0, 0, bt319.2.1, bt319.2.2.1, bt319.2.2.2.1, bt319.2.2.2.2.1, bt319.2.2.2.2.2.1, bt319.2.2.2.2.2.2)) else (some (1, bt319.1, bt319.2.1, bt319.2.2.1, bt319.2.2.2.1, 1, bt319.1, 0)))) else (if a0_3 = 1 then (impl_Prober_tick.j0 k a0_4 (decide ((wrap64 (a0_5 + 1)) ≥ 2)) l0_0 a0_1 a0_2 a0_3 a0_4 (wrap64 (a0_5 + 1))) else (impl_Prober_tick.j0 k a0_4 false l0_0 a0_1 a0_2 a0_3 a0_4 (wrap64 (a0_5 + 1))))) = some (r1, r2, r3, r4, r5, r6, r7, r8) := h
  clear h
  go_enter Try.func128, Try.ntmps128
  replace H := Aside0.mk H
  go_wp2_with (first | ((with_reducible refine gate_dst (N := 3) rfl ?_); refine box_event ?hg (N := 3) ?hd (cs := #[.int .i64 a1_0, .slice A1_1 l1_1.length c1_1]) (t := 41) ?hr ?_; (case hd => rfl); (case hg => rfl); (case hr => first | (go_simp; done) | (go_simp; rfl)); intro gb318 hg w3 hbox hb; have n_ := an (Kd.R_below (by exact Kd.R_nw HO0_0.out) hb) (an (blk_below (blk_nw BK0.out) hb) (an (Kept.below (S := (fun k_ => (P0_0_ k_) ∨ k_ = g)) (by exact kpt) hb) (an (below_step (by exact bel0) hb) (an (hbox) (an ((by rw [hg]; exact (by first | exact HK.out.1 | exact (show Kept w _ (fun k_ => (P0_0_ k_) ∨ k_ = g) from by exact kpt).1) : w.heap.size ≤ gb318)) (an ((by rw [hg]; exact (below_size (by exact bel0)) : w0.heap.size ≤ gb318)) (an ((by rw [hg]; exact Nat.ne_of_lt (blk_lt (blk_nw BK0.out)) : g ≠ gb318)) (an ((by rw [hg]; exact Nat.ne_of_gt (blk_lt (blk_nw BK0.out)) : gb318 ≠ g)) (trivial))))))))); clear HO0_0 BK0 HK HB; obtain ⟨HO0_0, BK0, HK, HB, BK318, GW318, GE318, NB0_318, NB318_0, -⟩ := n_; clear hb hbox hg; have hnb4 := NB0_318.out; have hnc4 := NB318_0.out; obtain ⟨hcz5_0, hcz5_1, hcz5_2, hcz5_3, hcz5_4, hcz5_5⟩ := blkz6 BK0.out; have hfz5_0 := blkf BK0.out; refine Stop.out ?_))
  refine Stop.mk ?_
  replace H := H.out
  by_cases c6 : a0_3 = 0
  · rw [if_pos c6] at H
    have c6b0 : (a0_3 == 0) = true := beq_iff_eq.mpr c6
    have c6b1 : (a0_3 != 0) = false := bne_eq_false_iff_eq.mpr c6
    clear c6
    replace H := Option.bind_eq_some_iff.mp H
    obtain ⟨⟨t319, t320, t323, t324, t325, t326, t327⟩, A70, H⟩ := H
    replace H : (if t319 < 0 then (some (0, 0, t320, t323, t324, t325, t326, t327)) else (some (1, t319, t320, t323, t324, 1, t319, 0))) = some (r1, r2, r3, r4, r5, r6, r7, r8) := H
    have A7 := Aside0.mk A70
    clear A70
    have hnb8 := NB318_0.out
    have hnc8 := NB0_318.out
    obtain ⟨hcz9_0, hcz9_1⟩ := blkz2 BK318.out
    have hfz9_0 := blkf BK318.out
    obtain ⟨Ao10, co10, eo10⟩ := Kd.R_slice HO0_0.out
    subst eo10
    replace H := Aside0.mk H
    go_wp2_with (first | ((with_reducible refine gate_callee (f := 126) rfl ?_); refine goesL_ (some 15) rfl rfl Try.func126 (by kernel_rfl) rfl #[.pointer (some ⟨g, 0, none⟩), .agg #[.int .i64 a1_0, .slice A1_1 l1_1.length c1_1]] rfl (by (try simp only [List.map_toArray, List.map_cons, List.map_nil]); first | done | rfl | (simp only [List.length_drop, List.length_take]; rfl)) ?_; (with_reducible refine (impl_Prober_next.calls k g (fun k_ => some k_ = (.slice Ao10 l0_0.length co10 : Value).ownBlock) (.slice Ao10 l0_0.length co10) l0_0 a0_1 a0_2 a0_3 a0_4 a0_5 a1_0 _ _ l1_1 t319 t320 t323 t324 t325 t326 t327 w0 _ ?side1 ?side2 ?side3 ?side4 ?side5 ?side6 A7.out).mono ?_); (case side1 => exact bel0); (case side2 => exact blk_nw BK0.out); (case side3 => exact GE0.out); (case side4 => exact Kd.R_tight rfl HO0_0.out); (case side5 => exact Kd.C_kept_call HR1_1.out (by exact kpt) (fun k_ hs_ => Or.elim hs_ (fun hs_ => (fun e_ => Or.imp_left Or.inl ((HO0_0.out.1 k_ e_.symm))) hs_) (fun e_ => .inl (.inr e_)))); (case side6 => exact HC1_1.out); rintro e w11 ⟨rfl, v321, ho0, hi, hb, hkp⟩; refine ⟨_, rfl, ?_⟩; have n_ := an (hi) (an (blk_kept (by exact blk_nw BK318.out) hkp (fun hs_ => Or.elim hs_ (fun hs_ => (fun e_ => (Kd.R_ne HO0_0.out BK318.out (by decide)) e_) hs_) (fun e_ => NB318_0.out e_))) (an (Kd.R_mono (ok' := fun k_ => (P0_0_ k_ ∨ w.heap.size ≤ k_)) ho0 (fun k_ hk_ => Or.elim hk_ (fun hs_ => (HO0_0.out.1 k_ (hs_).symm)) (fun hn_ => (.inr (Nat.le_trans (by first | exact HK.out.1 | exact (show Kept w _ (fun k_ => (P0_0_ k_) ∨ k_ = g) from by exact kpt).1) hn_))))) (an (Kept.then_ (S := (fun k_ => (P0_0_ k_) ∨ k_ = g)) (by exact kpt) hkp (fun k_ hs_ => Or.elim hs_ (fun hs_ => (fun e_ => Or.imp_left Or.inl ((HO0_0.out.1 k_ e_.symm))) hs_) (fun e_ => .inl (.inr e_)))) (an (hb) (trivial))))); clear BK0 BK318 HK HB HO0_0; obtain ⟨BK0, BK318, HO322, HK, HB, -⟩ := n_; (try clear hb); (try clear hkp); (try clear ho0); refine Stop.out ?_))
    refine Stop.mk ?_
    replace H := H.out
    by_cases c12 : t319 < 0
    · rw [if_pos c12] at H
      have c12b0 : decide (t319 < 0) = true := decide_eq_true c12
      clear c12
      (try simp only [c12b0])
      simp only [Option.some.injEq, Prod.mk.injEq] at H
      obtain ⟨rfl, rfl, rfl, rfl, rfl, rfl, rfl, rfl⟩ := H
      go_wp2
      go_ret2
      exact ⟨by first | rfl | (simp [errW_none, errW_some] <;> rfl) | (simp [*, errW_none, errW_some] <;> rfl), (v321), by exact Kd.R_nw HO322.out, by exact blk_nw BK0.out, by exact bel0, by exact kpt⟩
    · rw [if_neg c12] at H
      have c12b0 : decide (t319 < 0) = false := decide_eq_false c12
      clear c12
      (try simp only [c12b0])
      simp only [Option.some.injEq, Prod.mk.injEq] at H
      obtain ⟨rfl, rfl, rfl, rfl, rfl, rfl, rfl, rfl⟩ := H
      have hnb13 := NB0_318.out
      have hnc13 := NB318_0.out
      obtain ⟨hcz14_0, hcz14_1, hcz14_2, hcz14_3, hcz14_4, hcz14_5⟩ := blkz6 BK0.out
      have hfz14_0 := blkf BK0.out
      go_wp2_with (first | ((with_reducible refine gate_store (t := 3) (p := 23) rfl ?_); refine store_event (t := 3) (p := 23) (v := ?vo_w15) (w1 := (w11.setCell ⟨g, 3, none⟩ (.int .i64 1))) ?hg ?ho ?hn ?hr ?_; (case ho => rfl); (case hg => rfl); (case hn => rfl); (case hr => first | (go_simp; done) | (go_simp; rfl)); intro w15 hw; have n0_ : Aside0 (Kd.R (Kd.int .i64) 3 w15 w0.heap.size (fun k_ => (P0_0_ k_ ∨ w.heap.size ≤ k_)) v321 t320) := ⟨(by rw [hw]; exact (by exact (Kd.R_farN HO322.out BK0.out)))⟩; have n1_ : Aside0 (w15.heap[g]? = some (.cells #[v321, .int .i64 t323, .int .i64 t324, .int .i64 1, .int .i64 t326, .int .i64 t327] 90 (0, 0))) := ⟨(by rw [hw]; exact (by (with_reducible repeat (first | refine blk_drewN ?_ _ | refine blk_drew ?_ | refine blk_alloc ?_ _)); refine blk_put (cs := #[v321, .int .i64 t323, .int .i64 t324, .int .i64 t325, .int .i64 t326, .int .i64 t327]) ?_ 3 _ rfl; (with_reducible repeat (first | refine blk_drewN ?_ _ | refine blk_drew ?_ | refine blk_alloc ?_ _)); exact BK0.out))⟩; have n2_ : Aside0 (w15.heap[gb318]? = some (.cells #[.int .i64 a1_0, .slice A1_1 l1_1.length c1_1] 41 (0, 0))) := ⟨(by rw [hw]; exact (by exact blk_kb BK318.out NB318_0.out))⟩; have n3_ : Aside0 (Kept w w15 (fun k_ => (P0_0_ k_) ∨ k_ = g)) := ⟨(by rw [hw]; exact (by exact kpt))⟩; have n4_ : Aside0 (Below w0.heap.size w0 w15) := ⟨(by rw [hw]; exact (by exact bel0))⟩; clear hw; clear HO322; clear BK0; clear BK318; clear HK; clear HB; have HO322 := n0_; have BK0 := n1_; have BK318 := n2_; have HK := n3_; have HB := n4_; clear n0_ n1_ n2_ n3_ n4_; obtain ⟨hcz16_0, hcz16_1, hcz16_2, hcz16_3, hcz16_4, hcz16_5⟩ := blkz6 BK0.out; have hfz16_0 := blkf BK0.out) | ((with_reducible refine gate_store (t := 3) (p := 25) rfl ?_); refine store_event (t := 3) (p := 25) (v := ?vo_w17) (w1 := (w15.setCell ⟨g, 4, none⟩ (.int .i64 t319))) ?hg ?ho ?hn ?hr ?_; (case ho => rfl); (case hg => rfl); (case hn => rfl); (case hr => first | (go_simp; done) | (go_simp; rfl)); intro w17 hw; have n0_ : Aside0 (Kd.R (Kd.int .i64) 3 w17 w0.heap.size (fun k_ => (P0_0_ k_ ∨ w.heap.size ≤ k_)) v321 t320) := ⟨(by rw [hw]; exact (by exact (Kd.R_farN HO322.out BK0.out)))⟩; have n1_ : Aside0 (w17.heap[g]? = some (.cells #[v321, .int .i64 t323, .int .i64 t324, .int .i64 1, .int .i64 t319, .int .i64 t327] 90 (0, 0))) := ⟨(by rw [hw]; exact (by (with_reducible repeat (first | refine blk_drewN ?_ _ | refine blk_drew ?_ | refine blk_alloc ?_ _)); refine blk_put (cs := #[v321, .int .i64 t323, .int .i64 t324, .int .i64 1, .int .i64 t326, .int .i64 t327]) ?_ 4 _ rfl; (with_reducible repeat (first | refine blk_drewN ?_ _ | refine blk_drew ?_ | refine blk_alloc ?_ _)); exact BK0.out))⟩; have n2_ : Aside0 (w17.heap[gb318]? = some (.cells #[.int .i64 a1_0, .slice A1_1 l1_1.length c1_1] 41 (0, 0))) := ⟨(by rw [hw]; exact (by exact blk_kb BK318.out NB318_0.out))⟩; have n3_ : Aside0 (Kept w w17 (fun k_ => (P0_0_ k_) ∨ k_ = g)) := ⟨(by rw [hw]; exact (by exact kpt))⟩; have n4_ : Aside0 (Below w0.heap.size w0 w17) := ⟨(by rw [hw]; exact (by exact bel0))⟩; clear hw; clear HO322; clear BK0; clear BK318; clear HK; clear HB; have HO322 := n0_; have BK0 := n1_; have BK318 := n2_; have HK := n3_; have HB := n4_; clear n0_ n1_ n2_ n3_ n4_; obtain ⟨hcz18_0, hcz18_1, hcz18_2, hcz18_3, hcz18_4, hcz18_5⟩ := blkz6 BK0.out; have hfz18_0 := blkf BK0.out) | ((with_reducible refine gate_store (t := 3) (p := 27) rfl ?_); refine store_event (t := 3) (p := 27) (v := ?vo_w19) (w1 := (w17.setCell ⟨g, 5, none⟩ (.int .i64 0))) ?hg ?ho ?hn ?hr ?_; (case ho => rfl); (case hg => rfl); (case hn => rfl); (case hr => first | (go_simp; done) | (go_simp; rfl)); intro w19 hw; have n0_ : Aside0 (Kd.R (Kd.int .i64) 3 w19 w0.heap.size (fun k_ => (P0_0_ k_ ∨ w.heap.size ≤ k_)) v321 t320) := ⟨(by rw [hw]; exact (by exact (Kd.R_farN HO322.out BK0.out)))⟩; have n1_ : Aside0 (w19.heap[g]? = some (.cells #[v321, .int .i64 t323, .int .i64 t324, .int .i64 1, .int .i64 t319, .int .i64 0] 90 (0, 0))) := ⟨(by rw [hw]; exact (by (with_reducible repeat (first | refine blk_drewN ?_ _ | refine blk_drew ?_ | refine blk_alloc ?_ _)); refine blk_put (cs := #[v321, .int .i64 t323, .int .i64 t324, .int .i64 1, .int .i64 t319, .int .i64 t327]) ?_ 5 _ rfl; (with_reducible repeat (first | refine blk_drewN ?_ _ | refine blk_drew ?_ | refine blk_alloc ?_ _)); exact BK0.out))⟩; have n2_ : Aside0 (w19.heap[gb318]? = some (.cells #[.int .i64 a1_0, .slice A1_1 l1_1.length c1_1] 41 (0, 0))) := ⟨(by rw [hw]; exact (by exact blk_kb BK318.out NB318_0.out))⟩; have n3_ : Aside0 (Kept w w19 (fun k_ => (P0_0_ k_) ∨ k_ = g)) := ⟨(by rw [hw]; exact (by exact kpt))⟩; have n4_ : Aside0 (Below w0.heap.size w0 w19) := ⟨(by rw [hw]; exact (by exact bel0))⟩; clear hw; clear HO322; clear BK0; clear BK318; clear HK; clear HB; have HO322 := n0_; have BK0 := n1_; have BK318 := n2_; have HK := n3_; have HB := n4_; clear n0_ n1_ n2_ n3_ n4_))
      go_ret2
      exact ⟨by first | rfl | (simp [errW_none, errW_some] <;> rfl) | (simp [*, errW_none, errW_some] <;> rfl), (v321), by exact Kd.R_nw HO322.out, by exact blk_nw BK0.out, by exact bel0, by exact kpt⟩
  · rw [if_neg c6] at H
    have c6b0 : (a0_3 == 0) = false := beq_eq_false_iff_ne.mpr c6
    have c6b1 : (a0_3 != 0) = true := bne_iff_ne.mpr c6
    have HC20 := Aside0.mk H
    clear H
    have hnb21 := NB0_318.out
    have hnc21 := NB318_0.out
    obtain ⟨hcz22_0, hcz22_1, hcz22_2, hcz22_3, hcz22_4, hcz22_5⟩ := blkz6 BK0.out
    have hfz22_0 := blkf BK0.out
    go_upto_region 9 with (first | ((with_reducible refine gate_store (t := 3) (p := 35) rfl ?_); refine store_event (t := 3) (p := 35) (v := ?vo_w23) (w1 := (w3.setCell ⟨g, 5, none⟩ (.int .i64 (wrap64 (a0_5 + 1))))) ?hg ?ho ?hn ?hr ?_; (case ho => rfl); (case hg => rfl); (case hn => rfl); (case hr => first | (go_simp; done) | (go_simp; rfl)); intro w23 hw; have n0_ : Aside0 (Kd.R (Kd.int .i64) 3 w23 w0.heap.size (fun k_ => (P0_0_ k_ ∨ w.heap.size ≤ k_)) u9000_ l0_0) := ⟨(by rw [hw]; exact (by exact (Kd.R_farN HO0_0.out BK0.out)))⟩; have n1_ : Aside0 (w23.heap[g]? = some (.cells #[u9000_, .int .i64 a0_1, .int .i64 a0_2, .int .i64 a0_3, .int .i64 a0_4, .int .i64 (wrap64 (a0_5 + 1))] 90 (0, 0))) := ⟨(by rw [hw]; exact (by (with_reducible repeat (first | refine blk_drewN ?_ _ | refine blk_drew ?_ | refine blk_alloc ?_ _)); refine blk_put (cs := #[u9000_, .int .i64 a0_1, .int .i64 a0_2, .int .i64 a0_3, .int .i64 a0_4, .int .i64 a0_5]) ?_ 5 _ rfl; (with_reducible repeat (first | refine blk_drewN ?_ _ | refine blk_drew ?_ | refine blk_alloc ?_ _)); exact BK0.out))⟩; have n2_ : Aside0 (w23.heap[gb318]? = some (.cells #[.int .i64 a1_0, .slice A1_1 l1_1.length c1_1] 41 (0, 0))) := ⟨(by rw [hw]; exact (by exact blk_kb BK318.out NB318_0.out))⟩; have n3_ : Aside0 (Kept w w23 (fun k_ => (P0_0_ k_) ∨ k_ = g)) := ⟨(by rw [hw]; exact (by exact kpt))⟩; have n4_ : Aside0 (Below w0.heap.size w0 w23) := ⟨(by rw [hw]; exact (by exact bel0))⟩; clear hw; clear HO0_0; clear BK0; clear BK318; clear HK; clear HB; have HO0_0 := n0_; have BK0 := n1_; have BK318 := n2_; have HK := n3_; have HB := n4_; clear n0_ n1_ n2_ n3_ n4_; obtain ⟨hcz24_0, hcz24_1, hcz24_2, hcz24_3, hcz24_4, hcz24_5⟩ := blkz6 BK0.out; have hfz24_0 := blkf BK0.out))
    (try simp only [Act.put, List.setIfInBounds_toArray, List.set_cons_zero, List.set_cons_succ])
    go_cut [40] (fun v40 wc => ∃ (kq : Nat) (x40_19 : Bool), v40 = .bool x40_19 ∧ Aside0 (impl_Prober_tick.j0 kq a0_4 x40_19 l0_0 a0_1 a0_2 a0_3 a0_4 (wrap64 (a0_5 + 1)) = some (r1, r2, r3, r4, r5, r6, r7, r8)) ∧ Aside0 (kq ≤ k) ∧ Aside0 (Kd.R (Kd.int .i64) 3 wc w0.heap.size (fun k_ => (P0_0_ k_ ∨ w.heap.size ≤ k_)) u9000_ l0_0) ∧ Aside0 (wc.heap[g]? = some (.cells #[u9000_, .int .i64 a0_1, .int .i64 a0_2, .int .i64 a0_3, .int .i64 a0_4, .int .i64 (wrap64 (a0_5 + 1))] 90 (0, 0))) ∧ Aside0 (wc.heap[gb318]? = some (.cells #[.int .i64 a1_0, (.slice A1_1 l1_1.length c1_1)] 41 (0, 0))) ∧ Aside0 (Kept w wc (fun k_ => (P0_0_ k_) ∨ k_ = g)) ∧ Aside0 (Below w0.heap.size w0 wc))
    case first =>
      have H := HC20.out
      clear HC20
      by_cases c25 : a0_3 = 1
      · rw [if_pos c25] at H
        have c25b0 : (a0_3 == 1) = true := beq_iff_eq.mpr c25
        have c25b1 : (a0_3 != 1) = false := bne_eq_false_iff_eq.mpr c25
        clear c25
        (first | rw [c25b0] | (simp only [i64_w, i32_w]; rw [c25b0]) | skip)
        have H' := Aside0.mk H
        clear H
        have hnb26 := NB0_318.out
        have hnc26 := NB318_0.out
        obtain ⟨hcz27_0, hcz27_1, hcz27_2, hcz27_3, hcz27_4, hcz27_5⟩ := blkz6 BK0.out
        have hfz27_0 := blkf BK0.out
        go_wp2
        go_meet
        case rel => exact ⟨_, (decide ((wrap64 (a0_5 + 1)) ≥ 2)), (by first | rfl | (simp; done) | (simp [*]; done)), H', ⟨by first | omega | exact Nat.le_refl _⟩, ⟨by exact Kd.R_nw HO0_0.out⟩, ⟨by exact blk_nw BK0.out⟩, ⟨by exact blk_nw BK318.out⟩, ⟨by exact kpt⟩, ⟨by exact bel0⟩⟩
      · rw [if_neg c25] at H
        have c25b0 : (a0_3 == 1) = false := beq_eq_false_iff_ne.mpr c25
        have c25b1 : (a0_3 != 1) = true := bne_iff_ne.mpr c25
        (first | rw [c25b0] | (simp only [i64_w, i32_w]; rw [c25b0]) | skip)
        have H' := Aside0.mk H
        clear H
        have hnb28 := NB0_318.out
        have hnc28 := NB318_0.out
        obtain ⟨hcz29_0, hcz29_1, hcz29_2, hcz29_3, hcz29_4, hcz29_5⟩ := blkz6 BK0.out
        have hfz29_0 := blkf BK0.out
        go_wp2
        go_meet
        case rel => exact ⟨_, (false), (by first | rfl | (simp; done) | (simp [*]; done)), H', ⟨by first | omega | exact Nat.le_refl _⟩, ⟨by exact Kd.R_nw HO0_0.out⟩, ⟨by exact blk_nw BK0.out⟩, ⟨by exact blk_nw BK318.out⟩, ⟨by exact kpt⟩, ⟨by exact bel0⟩⟩
    case rest =>
      clear HC20
      try clear c1
      try clear c2
      try clear p2
      try clear c4
      try clear c6
      try clear c6b0
      try clear c6b1
      try clear p6
      try clear c8
      try clear c12
      try clear c12b0
      try clear c13
      try clear c21
      try clear c25
      try clear c25b0
      try clear c25b1
      try clear c26
      try clear c28
      try clear hcz14_0
      try clear hcz14_1
      try clear hcz14_2
      try clear hcz14_3
      try clear hcz14_4
      try clear hcz14_5
      try clear hcz16_0
      try clear hcz16_1
      try clear hcz16_2
      try clear hcz16_3
      try clear hcz16_4
      try clear hcz16_5
      try clear hcz18_0
      try clear hcz18_1
      try clear hcz18_2
      try clear hcz18_3
      try clear hcz18_4
      try clear hcz18_5
      try clear hcz22_0
      try clear hcz22_1
      try clear hcz22_2
      try clear hcz22_3
      try clear hcz22_4
      try clear hcz22_5
      try clear hcz24_0
      try clear hcz24_1
      try clear hcz24_2
      try clear hcz24_3
      try clear hcz24_4
      try clear hcz24_5
      try clear hcz27_0
      try clear hcz27_1
      try clear hcz27_2
      try clear hcz27_3
      try clear hcz27_4
      try clear hcz27_5
      try clear hcz29_0
      try clear hcz29_1
      try clear hcz29_2
      try clear hcz29_3
      try clear hcz29_4
      try clear hcz29_5
      try clear hcz5_0
      try clear hcz5_1
      try clear hcz5_2
      try clear hcz5_3
      try clear hcz5_4
      try clear hcz5_5
      try clear hcz9_0
      try clear hcz9_1
      try clear hfz14_0
      try clear hfz14_1
      try clear hfz14_2
      try clear hfz14_3
      try clear hfz14_4
      try clear hfz14_5
      try clear hfz16_0
      try clear hfz16_1
      try clear hfz16_2
      try clear hfz16_3
      try clear hfz16_4
      try clear hfz16_5
      try clear hfz18_0
      try clear hfz18_1
      try clear hfz18_2
      try clear hfz18_3
      try clear hfz18_4
      try clear hfz18_5
      try clear hfz22_0
      try clear hfz22_1
      try clear hfz22_2
      try clear hfz22_3
      try clear hfz22_4
      try clear hfz22_5
      try clear hfz24_0
      try clear hfz24_1
      try clear hfz24_2
      try clear hfz24_3
      try clear hfz24_4
      try clear hfz24_5
      try clear hfz27_0
      try clear hfz27_1
      try clear hfz27_2
      try clear hfz27_3
      try clear hfz27_4
      try clear hfz27_5
      try clear hfz29_0
      try clear hfz29_1
      try clear hfz29_2
      try clear hfz29_3
      try clear hfz29_4
      try clear hfz29_5
      try clear hfz5_0
      try clear hfz5_1
      try clear hfz5_2
      try clear hfz5_3
      try clear hfz5_4
      try clear hfz5_5
      try clear hfz9_0
      try clear hfz9_1
      obtain ⟨kq, x40_19, rfl, HA, HJ19, HO_1000, BK0, BK318, HK, HB⟩ := hcut
      cases kq with
      | zero => exact absurd HA.out (by simp [impl_Prober_tick.j0])
      | succ kj19 =>
        have H := HA.out
        clear HA
        simp only [impl_Prober_tick.j0] at H
        by_cases c30 : x40_19 = true
        · subst c30
          rw [if_pos rfl] at H
          simp only [Option.some.injEq, Prod.mk.injEq] at H
          obtain ⟨rfl, rfl, rfl, rfl, rfl, rfl, rfl, rfl⟩ := H
          have hnb31 := NB0_318.out
          have hnc31 := NB318_0.out
          obtain ⟨hcz32_0, hcz32_1, hcz32_2, hcz32_3, hcz32_4, hcz32_5⟩ := blkz6 BK0.out
          have hfz32_0 := blkf BK0.out
          go_wp2_with (first | ((with_reducible refine gate_store (t := 3) (p := 56) rfl ?_); refine store_event (t := 3) (p := 56) (v := ?vo_w33) (w1 := (wc.setCell ⟨g, 3, none⟩ (.int .i64 2))) ?hg ?ho ?hn ?hr ?_; (case ho => rfl); (case hg => rfl); (case hn => rfl); (case hr => first | (go_simp; done) | (go_simp; rfl)); intro w33 hw; have n0_ : Aside0 (Kd.R (Kd.int .i64) 3 w33 w0.heap.size (fun k_ => (P0_0_ k_ ∨ w.heap.size ≤ k_)) u9000_ l0_0) := ⟨(by rw [hw]; exact (by exact (Kd.R_farN HO_1000.out BK0.out)))⟩; have n1_ : Aside0 (w33.heap[g]? = some (.cells #[u9000_, .int .i64 a0_1, .int .i64 a0_2, .int .i64 2, .int .i64 a0_4, .int .i64 (wrap64 (a0_5 + 1))] 90 (0, 0))) := ⟨(by rw [hw]; exact (by (with_reducible repeat (first | refine blk_drewN ?_ _ | refine blk_drew ?_ | refine blk_alloc ?_ _)); refine blk_put (cs := #[u9000_, .int .i64 a0_1, .int .i64 a0_2, .int .i64 a0_3, .int .i64 a0_4, .int .i64 (wrap64 (a0_5 + 1))]) ?_ 3 _ rfl; (with_reducible repeat (first | refine blk_drewN ?_ _ | refine blk_drew ?_ | refine blk_alloc ?_ _)); exact BK0.out))⟩; have n2_ : Aside0 (w33.heap[gb318]? = some (.cells #[.int .i64 a1_0, .slice A1_1 l1_1.length c1_1] 41 (0, 0))) := ⟨(by rw [hw]; exact (by exact blk_kb BK318.out NB318_0.out))⟩; have n3_ : Aside0 (Kept w w33 (fun k_ => (P0_0_ k_) ∨ k_ = g)) := ⟨(by rw [hw]; exact (by exact kpt))⟩; have n4_ : Aside0 (Below w0.heap.size w0 w33) := ⟨(by rw [hw]; exact (by exact bel0))⟩; clear hw; clear HO_1000; clear BK0; clear BK318; clear HK; clear HB; have HO_1000 := n0_; have BK0 := n1_; have BK318 := n2_; have HK := n3_; have HB := n4_; clear n0_ n1_ n2_ n3_ n4_; obtain ⟨hcz34_0, hcz34_1, hcz34_2, hcz34_3, hcz34_4, hcz34_5⟩ := blkz6 BK0.out; have hfz34_0 := blkf BK0.out) | ((with_reducible refine gate_store (t := 3) (p := 58) rfl ?_); refine store_event (t := 3) (p := 58) (v := ?vo_w35) (w1 := (w33.setCell ⟨g, 5, none⟩ (.int .i64 0))) ?hg ?ho ?hn ?hr ?_; (case ho => rfl); (case hg => rfl); (case hn => rfl); (case hr => first | (go_simp; done) | (go_simp; rfl)); intro w35 hw; have n0_ : Aside0 (Kd.R (Kd.int .i64) 3 w35 w0.heap.size (fun k_ => (P0_0_ k_ ∨ w.heap.size ≤ k_)) u9000_ l0_0) := ⟨(by rw [hw]; exact (by exact (Kd.R_farN HO_1000.out BK0.out)))⟩; have n1_ : Aside0 (w35.heap[g]? = some (.cells #[u9000_, .int .i64 a0_1, .int .i64 a0_2, .int .i64 2, .int .i64 a0_4, .int .i64 0] 90 (0, 0))) := ⟨(by rw [hw]; exact (by (with_reducible repeat (first | refine blk_drewN ?_ _ | refine blk_drew ?_ | refine blk_alloc ?_ _)); refine blk_put (cs := #[u9000_, .int .i64 a0_1, .int .i64 a0_2, .int .i64 2, .int .i64 a0_4, .int .i64 (wrap64 (a0_5 + 1))]) ?_ 5 _ rfl; (with_reducible repeat (first | refine blk_drewN ?_ _ | refine blk_drew ?_ | refine blk_alloc ?_ _)); exact BK0.out))⟩; have n2_ : Aside0 (w35.heap[gb318]? = some (.cells #[.int .i64 a1_0, .slice A1_1 l1_1.length c1_1] 41 (0, 0))) := ⟨(by rw [hw]; exact (by exact blk_kb BK318.out NB318_0.out))⟩; have n3_ : Aside0 (Kept w w35 (fun k_ => (P0_0_ k_) ∨ k_ = g)) := ⟨(by rw [hw]; exact (by exact kpt))⟩; have n4_ : Aside0 (Below w0.heap.size w0 w35) := ⟨(by rw [hw]; exact (by exact bel0))⟩; clear hw; clear HO_1000; clear BK0; clear BK318; clear HK; clear HB; have HO_1000 := n0_; have BK0 := n1_; have BK318 := n2_; have HK := n3_; have HB := n4_; clear n0_ n1_ n2_ n3_ n4_))
          go_ret2
          exact ⟨by first | rfl | (simp [errW_none, errW_some] <;> rfl) | (simp [*, errW_none, errW_some] <;> rfl), (u9000_), by exact Kd.R_nw HO_1000.out, by exact blk_nw BK0.out, by exact bel0, by exact kpt⟩
        · replace c30 := Bool.eq_false_iff.mpr c30
          subst c30
          rw [if_neg (show ¬ (false = true) by decide)] at H
          by_cases c36 : a0_3 = 2
          · rw [if_pos c36] at H
            have c36b0 : (a0_3 == 2) = true := beq_iff_eq.mpr c36
            have c36b1 : (a0_3 != 2) = false := bne_eq_false_iff_eq.mpr c36
            clear c36
            by_cases c37 : (wrap64 (a0_5 + 1)) ≥ 4
            · rw [if_pos c37] at H
              have c37b0 : decide (4 ≤ (wrap64 (a0_5 + 1))) = true := decide_eq_true c37
              clear c37
              (try simp only [c37b0])
              replace H := Option.bind_eq_some_iff.mp H
              obtain ⟨⟨t328, t331, t332, t333, t334, t335⟩, A380, H⟩ := H
              replace H : (some (3, a0_4, t328, t331, t332, t333, t334, t335)) = some (r1, r2, r3, r4, r5, r6, r7, r8) := H
              have A38 := Aside0.mk A380
              clear A380
              simp only [Option.some.injEq, Prod.mk.injEq] at H
              obtain ⟨rfl, rfl, rfl, rfl, rfl, rfl, rfl, rfl⟩ := H
              have hnb39 := NB0_318.out
              have hnc39 := NB318_0.out
              obtain ⟨hcz40_0, hcz40_1, hcz40_2, hcz40_3, hcz40_4, hcz40_5⟩ := blkz6 BK0.out
              have hfz40_0 := blkf BK0.out
              obtain ⟨Ao41, co41, eo41⟩ := Kd.R_slice HO_1000.out
              subst eo41
              go_wp2_with (first | ((with_reducible refine gate_callee (f := 163) rfl ?_); refine goesL_ (some 74) rfl rfl Try.func163 (by kernel_rfl) rfl #[.pointer (some ⟨g, 0, none⟩)] rfl (by (try simp only [List.map_toArray, List.map_cons, List.map_nil]); first | done | rfl | (simp only [List.length_drop, List.length_take]; rfl)) ?_; (with_reducible refine (impl_Prober_idle.calls g (fun k_ => some k_ = (.slice Ao41 l0_0.length co41 : Value).ownBlock) (.slice Ao41 l0_0.length co41) l0_0 a0_1 a0_2 a0_3 a0_4 (wrap64 (a0_5 + 1)) t328 t331 t332 t333 t334 t335 w0 _ ?side1 ?side2 ?side3 ?side4 A38.out).mono ?_); (case side1 => exact bel0); (case side2 => exact blk_nw BK0.out); (case side3 => exact GE0.out); (case side4 => exact Kd.R_tight rfl HO_1000.out); rintro e w42 ⟨rfl, v329, ho0, hi, hb, hkp⟩; refine ⟨_, rfl, ?_⟩; have n_ := an (hi) (an (blk_kept (by exact blk_nw BK318.out) hkp (fun hs_ => Or.elim hs_ (fun hs_ => (fun e_ => (Kd.R_ne HO_1000.out BK318.out (by decide)) e_) hs_) (fun e_ => NB318_0.out e_))) (an (Kd.R_mono (ok' := fun k_ => (P0_0_ k_ ∨ w.heap.size ≤ k_)) ho0 (fun k_ hk_ => Or.elim hk_ (fun hs_ => (HO_1000.out.1 k_ (hs_).symm)) (fun hn_ => (.inr (Nat.le_trans (by first | exact HK.out.1 | exact (show Kept w _ (fun k_ => (P0_0_ k_) ∨ k_ = g) from by exact kpt).1) hn_))))) (an (Kept.then_ (S := (fun k_ => (P0_0_ k_) ∨ k_ = g)) (by exact kpt) hkp (fun k_ hs_ => Or.elim hs_ (fun hs_ => (fun e_ => Or.imp_left Or.inl ((HO_1000.out.1 k_ e_.symm))) hs_) (fun e_ => .inl (.inr e_)))) (an (hb) (trivial))))); clear BK0 BK318 HK HB HO_1000; obtain ⟨BK0, BK318, HO330, HK, HB, -⟩ := n_; (try clear hb); (try clear hkp); (try clear ho0)))
              go_ret2
              exact ⟨by first | rfl | (simp [errW_none, errW_some] <;> rfl) | (simp [*, errW_none, errW_some] <;> rfl), (v329), by exact Kd.R_nw HO330.out, by exact blk_nw BK0.out, by exact bel0, by exact kpt⟩
            · rw [if_neg c37] at H
              have c37b0 : decide (4 ≤ (wrap64 (a0_5 + 1))) = false := decide_eq_false c37
              clear c37
              (try simp only [c37b0])
              simp only [Option.some.injEq, Prod.mk.injEq] at H
              obtain ⟨rfl, rfl, rfl, rfl, rfl, rfl, rfl, rfl⟩ := H
              have hnb43 := NB0_318.out
              have hnc43 := NB318_0.out
              obtain ⟨hcz44_0, hcz44_1, hcz44_2, hcz44_3, hcz44_4, hcz44_5⟩ := blkz6 BK0.out
              have hfz44_0 := blkf BK0.out
              go_wp2
              go_ret2
              exact ⟨by first | rfl | (simp [errW_none, errW_some] <;> rfl) | (simp [*, errW_none, errW_some] <;> rfl), (u9000_), by exact Kd.R_nw HO_1000.out, by exact blk_nw BK0.out, by exact bel0, by exact kpt⟩
          · rw [if_neg c36] at H
            have c36b0 : (a0_3 == 2) = false := beq_eq_false_iff_ne.mpr c36
            have c36b1 : (a0_3 != 2) = true := bne_iff_ne.mpr c36
            simp only [Option.some.injEq, Prod.mk.injEq] at H
            obtain ⟨rfl, rfl, rfl, rfl, rfl, rfl, rfl, rfl⟩ := H
            have hnb45 := NB0_318.out
            have hnc45 := NB318_0.out
            obtain ⟨hcz46_0, hcz46_1, hcz46_2, hcz46_3, hcz46_4, hcz46_5⟩ := blkz6 BK0.out
            have hfz46_0 := blkf BK0.out
            go_wp2
            go_ret2
            exact ⟨by first | rfl | (simp [errW_none, errW_some] <;> rfl) | (simp [*, errW_none, errW_some] <;> rfl), (u9000_), by exact Kd.R_nw HO_1000.out, by exact blk_nw BK0.out, by exact bel0, by exact kpt⟩

end Go.Proofs.Ytigoajblljolcaa.XFnExactProbeTick
