-- Written by this session's own program (xprint.py) over the kit's print.
import Derived.Test.YtigoajblljolcaaXFnExactNextProbex0
import Derived.Test.YtigoajblljolcaaXFnExactNextProbex8
import Derived.Test.YtigoajblljolcaaXFnExactNextProbex9
import Derived.Test.YtigoajblljolcaaXFnExactNextProbex10
namespace Go.Proofs.Ytigoajblljolcaa.XFnExactNextProbe
open Go.RowKit Go.Proofs.YtigoajblljolcaaW.PrintWords Go.Proofs.YtigoajblljolcaaW.PrintLast Go.Proofs.YtigoajblljolcaaW.PrintMore
attribute [local go_sem] max2_int min2_int max_two min_two max_three min_three max_four min_four   -- for this text's walks alone
set_option linter.unusedVariables false
set_option linter.unusedSimpArgs false

/-! ### impl_Prober_next: function 126 -/
mutual
def impl_Prober_next.l0 : Nat → List Int → Int → List Int → Int → Int → Int → Int → Int → Option (Int × List Int × Int × Int × Int × Int × Int)
  | 0, _, _, _, _, _, _, _, _ => none
  | k + 1, x5, x6, x1000, x1001, x1002, x1003, x1004, x1005 => impl_Prober_next.l1 k x5 x6 x1001 x1000 x1001 x1002 x1003 x1004 x1005
def impl_Prober_next.l1 : Nat → List Int → Int → Int → List Int → Int → Int → Int → Int → Int → Option (Int × List Int × Int × Int × Int × Int × Int)
  | 0, _, _, _, _, _, _, _, _, _ => none
  | k + 1, x5, x6, x7, x1000, x1001, x1002, x1003, x1004, x1005 => if x7 < (x1000.length : Int) then (if 0 ≤ x7 then ((slices_Contains_int_int.f k x5 (rd x1000 x7)).bind fun t301 => (if t301 = true then (some (rd x1000 x7, x1000, wrap64 (x7 + 1), x1002, x1003, x1004, x1005)) else (impl_Prober_next.l1 k x5 x6 (wrap64 (x7 + 1)) x1000 x1001 x1002 x1003 x1004 x1005))) else (none)) else ((impl_Shuffle.f k x5 x1002).bind fun bt303 => (if x6 = 1 then (some ((-1), bt303.1, 0, bt303.2, x1003, x1004, x1005)) else (impl_Prober_next.l0 k x5 (wrap64 (x6 + 1)) bt303.1 0 bt303.2 x1003 x1004 x1005)))
end
def impl_Prober_next.f (k : Nat) (l0_0 : List Int) (a0_1 : Int) (a0_2 : Int) (a0_3 : Int) (a0_4 : Int) (a0_5 : Int) (a1_0 : Int) (l1_1 : List (S82)) : Option (Int × List Int × Int × Int × Int × Int × Int) := (impl_Table_others.f k a1_0 l1_1 (-1)).bind fun t297 => (impl_Prober_next.l0 k t297 0 l0_0 a0_1 a0_2 a0_3 a0_4 a0_5)
theorem impl_Prober_next.mono_l : ∀ k, (∀ y0 y1 y2 y3 y4 y5 y6 y7, LeO (impl_Prober_next.l0 k y0 y1 y2 y3 y4 y5 y6 y7) (impl_Prober_next.l0 (k + 1) y0 y1 y2 y3 y4 y5 y6 y7)) ∧ (∀ y0 y1 y2 y3 y4 y5 y6 y7 y8, LeO (impl_Prober_next.l1 k y0 y1 y2 y3 y4 y5 y6 y7 y8) (impl_Prober_next.l1 (k + 1) y0 y1 y2 y3 y4 y5 y6 y7 y8))
  | 0 => ⟨fun _ _ _ _ _ _ _ _ r h => by simp [impl_Prober_next.l0] at h, fun _ _ _ _ _ _ _ _ _ r h => by simp [impl_Prober_next.l1] at h⟩
  | k + 1 => by
    obtain ⟨ih0, ih1⟩ := impl_Prober_next.mono_l k
    refine ⟨?_, ?_⟩
    · intro y0 y1 y2 y3 y4 y5 y6 y7
      unfold impl_Prober_next.l0
      repeat' first
      | (with_reducible exact ih0 _ _ _ _ _ _ _ _)
      | (with_reducible exact ih1 _ _ _ _ _ _ _ _ _)
      | (with_reducible exact impl_Shuffle.mono _ _ _)
      | (with_reducible exact impl_Table_others.mono _ _ _ _)
      | (with_reducible exact slices_Contains_int_int.mono _ _ _)
      | (with_reducible exact LeO.refl _)
      | (with_reducible exact LeO.none _)
      | (with_reducible refine LeO.ite ?_ ?_)
      | (with_reducible refine LeO.bind ?_ (fun _ => ?_))
      | exact ih0 _ _ _ _ _ _ _ _
      | exact ih1 _ _ _ _ _ _ _ _ _
      | exact impl_Shuffle.mono _ _ _
      | exact impl_Table_others.mono _ _ _ _
      | exact slices_Contains_int_int.mono _ _ _
      | exact LeO.none _
      | refine LeO.ite ?_ ?_
      | refine LeO.bind ?_ (fun _ => ?_)
    · intro y0 y1 y2 y3 y4 y5 y6 y7 y8
      unfold impl_Prober_next.l1
      repeat' first
      | (with_reducible exact ih0 _ _ _ _ _ _ _ _)
      | (with_reducible exact ih1 _ _ _ _ _ _ _ _ _)
      | (with_reducible exact impl_Shuffle.mono _ _ _)
      | (with_reducible exact impl_Table_others.mono _ _ _ _)
      | (with_reducible exact slices_Contains_int_int.mono _ _ _)
      | (with_reducible exact LeO.refl _)
      | (with_reducible exact LeO.none _)
      | (with_reducible refine LeO.ite ?_ ?_)
      | (with_reducible refine LeO.bind ?_ (fun _ => ?_))
      | exact ih0 _ _ _ _ _ _ _ _
      | exact ih1 _ _ _ _ _ _ _ _ _
      | exact impl_Shuffle.mono _ _ _
      | exact impl_Table_others.mono _ _ _ _
      | exact slices_Contains_int_int.mono _ _ _
      | exact LeO.none _
      | refine LeO.ite ?_ ?_
      | refine LeO.bind ?_ (fun _ => ?_)
theorem impl_Prober_next.mono : ∀ a0 a1 a2 a3 a4 a5 a6 a7 k, LeO (impl_Prober_next.f k a0 a1 a2 a3 a4 a5 a6 a7) (impl_Prober_next.f (k + 1) a0 a1 a2 a3 a4 a5 a6 a7) := by
  intro a0 a1 a2 a3 a4 a5 a6 a7 k
  obtain ⟨ih0, ih1⟩ := impl_Prober_next.mono_l k
  unfold impl_Prober_next.f
  repeat' first
      | (with_reducible exact ih0 _ _ _ _ _ _ _ _)
      | (with_reducible exact ih1 _ _ _ _ _ _ _ _ _)
      | (with_reducible exact impl_Shuffle.mono _ _ _)
      | (with_reducible exact impl_Table_others.mono _ _ _ _)
      | (with_reducible exact slices_Contains_int_int.mono _ _ _)
      | (with_reducible exact LeO.refl _)
      | (with_reducible exact LeO.none _)
      | (with_reducible refine LeO.ite ?_ ?_)
      | (with_reducible refine LeO.bind ?_ (fun _ => ?_))
      | exact ih0 _ _ _ _ _ _ _ _
      | exact ih1 _ _ _ _ _ _ _ _ _
      | exact impl_Shuffle.mono _ _ _
      | exact impl_Table_others.mono _ _ _ _
      | exact slices_Contains_int_int.mono _ _ _
      | exact LeO.none _
      | refine LeO.ite ?_ ?_
      | refine LeO.bind ?_ (fun _ => ?_)
set_option maxHeartbeats 8000000 in
set_option maxRecDepth 100000 in
theorem impl_Prober_next.calls (k : Nat) (g : Nat) (P0_0_ : Nat → Prop) (u9000_ : Value) (l0_0 : List Int) (a0_1 : Int) (a0_2 : Int) (a0_3 : Int) (a0_4 : Int) (a0_5 : Int) (a1_0 : Int) (A1_1 : Option Addr) (c1_1 : Nat) (l1_1 : List (S82)) (r1 : Int) (r2 : List Int) (r3 : Int) (r4 : Int) (r5 : Int) (r6 : Int) (r7 : Int) (w0 w : World) (hB : Below w0.heap.size w0 w) (hbx : w.heap[g]? = some (.cells #[u9000_, .int .i64 a0_1, .int .i64 a0_2, .int .i64 a0_3, .int .i64 a0_4, .int .i64 a0_5] 90 (0, 0))) (hgx : w0.heap.size ≤ g) (ho0_0 : Kd.R (Kd.int .i64) 3 w w0.heap.size P0_0_ u9000_ l0_0) (hr1_1 : ∀ W_, Kept w W_ (fun k_ => (P0_0_ k_) ∨ k_ = g) → Kd.C k82 W_ A1_1 l1_1.length l1_1) (hc1_1 : l1_1.length ≤ c1_1) (h : impl_Prober_next.f k l0_0 a0_1 a0_2 a0_3 a0_4 a0_5 a1_0 l1_1 = some (r1, r2, r3, r4, r5, r6, r7)) :
    Calls Try.prog 126 #[.pointer (some ⟨g, 0, none⟩), .agg #[.int .i64 a1_0, .slice A1_1 l1_1.length c1_1]] w fun e w' => e = .returned (.int .i64 r1) ∧ ∃ v1_ : Value, Kd.R (Kd.int .i64) 3 w' w0.heap.size (fun k_ => (P0_0_ k_ ∨ w.heap.size ≤ k_)) v1_ r2 ∧ w'.heap[g]? = some (.cells #[v1_, .int .i64 r3, .int .i64 r4, .int .i64 r5, .int .i64 r6, .int .i64 r7] 90 (0, 0)) ∧ Below w0.heap.size w0 w' ∧ Kept w w' (fun k_ => (P0_0_ k_) ∨ k_ = g) := by
  have hu41 := Try.underlying41
  have BK0 := Aside0.mk hbx
  have GE0 := Aside0.mk hgx
  clear hbx hgx
  have HO0_0 := Aside0.mk (show Kd.R (Kd.int .i64) 3 w w0.heap.size (fun k_ => (P0_0_ k_ ∨ w.heap.size ≤ k_)) u9000_ l0_0 from Kd.R_mono ho0_0 (fun k_ hk => (.inl hk)))
  have HR1_1 := Aside0.mk hr1_1
  have HC1_1 := Aside0.mk hc1_1
  clear hr1_1 hc1_1
  have HK := Aside0.mk (Kept.refl w (fun k_ => (P0_0_ k_) ∨ k_ = g))
  have HW0 := Aside0.mk hB.size
  have HB := Aside0.mk hB
  clear hB
  have H : ((impl_Table_others.f k a1_0 l1_1 (-1)).bind fun t297 => (impl_Prober_next.l0 k t297 0 l0_0 a0_1 a0_2 a0_3 a0_4 a0_5)) = some (r1, r2, r3, r4, r5, r6, r7) := h
  clear h
  replace H := Option.bind_eq_some_iff.mp H
  obtain ⟨t297, A30, H⟩ := H
  have A3 := Aside0.mk A30
  clear A30
  have H' := Aside0.mk H
  clear H
  go_enter Try.func126, Try.ntmps126
  go_wp2_with (first | ((with_reducible refine gate_dst (N := 3) rfl ?_); refine box_event ?hg (N := 3) ?hd (cs := #[.int .i64 a1_0, .slice A1_1 l1_1.length c1_1]) (t := 41) ?hr ?_; (case hd => rfl); (case hg => rfl); (case hr => first | (go_simp; done) | (go_simp; rfl)); intro gb296 hg w4 hbox hb; have n_ := an (Kd.R_below (by exact Kd.R_nw HO0_0.out) hb) (an (blk_below (blk_nw BK0.out) hb) (an (Kept.below (S := (fun k_ => (P0_0_ k_) ∨ k_ = g)) (by repeat (first | (with_reducible first | exact HK.out | apply Kept.alloc | apply Kept.drewN | apply Kept.drew | refine Kept.setCell ?_ (.inl (.inr rfl)) _) | exact HK.out)) hb) (an (below_step (by exact bel0) hb) (an (hbox) (an ((by rw [hg]; exact (by first | exact HK.out.1 | exact (show Kept w _ (fun k_ => (P0_0_ k_) ∨ k_ = g) from by repeat (first | (with_reducible first | exact HK.out | apply Kept.alloc | apply Kept.drewN | apply Kept.drew | refine Kept.setCell ?_ (.inl (.inr rfl)) _) | exact HK.out)).1) : w.heap.size ≤ gb296)) (an ((by rw [hg]; exact (below_size (by exact bel0)) : w0.heap.size ≤ gb296)) (an ((by rw [hg]; exact Nat.ne_of_lt (blk_lt (blk_nw BK0.out)) : g ≠ gb296)) (an ((by rw [hg]; exact Nat.ne_of_gt (blk_lt (blk_nw BK0.out)) : gb296 ≠ g)) (trivial))))))))); clear HO0_0 BK0 HK HB; obtain ⟨HO0_0, BK0, HK, HB, BK296, GW296, GE296, NB0_296, NB296_0, -⟩ := n_; clear hb hbox hg; have hnb5 := NB296_0.out; have hnc5 := NB0_296.out; obtain ⟨hcz6_0, hcz6_1⟩ := blkz2 BK296.out; have hfz6_0 := blkf BK296.out) | ((with_reducible refine gate_callee (f := 161) rfl ?_); refine goesL_ (some 9) rfl rfl Try.func161 (by kernel_rfl) rfl #[.agg #[.int .i64 a1_0, .slice A1_1 l1_1.length c1_1], .int .i64 (-1)] rfl (by (try simp only [List.map_toArray, List.map_cons, List.map_nil]); first | done | rfl | (simp only [List.length_drop, List.length_take]; rfl)) ?_; (with_reducible refine (impl_Table_others.calls k a1_0 _ _ l1_1 (-1) t297 _ ?side1 ?side2 A3.out).mono ?_); (case side1 => exact Kd.C_kept_now HR1_1.out (by repeat (first | (with_reducible first | exact HK.out | apply Kept.alloc | apply Kept.drewN | apply Kept.drew | refine Kept.setCell ?_ (.inl (.inr rfl)) _ | refine Kept.setCell ?_ (.inr GW296.out) _) | exact HK.out))); (case side2 => exact HC1_1.out); rintro e w7 ⟨v298, rfl, ho0, hb⟩; refine ⟨_, rfl, ?_⟩; have n_ := an (Kd.R_elder' (by exact Kd.R_nw HO0_0.out) (Kd.R_base ho0) hb) (an (Kd.R_lower (Kd.R_new' (Kd.R_newM (M := fun k_ => (P0_0_ k_ ∨ w.heap.size ≤ k_)) ho0 (by first | exact HK.out.1 | exact (show Kept w _ (fun k_ => (P0_0_ k_) ∨ k_ = g) from by repeat (first | (with_reducible first | exact HK.out | apply Kept.alloc | apply Kept.drewN | apply Kept.drew | refine Kept.setCell ?_ (.inl (.inr rfl)) _ | refine Kept.setCell ?_ (.inr GW296.out) _) | exact HK.out)).1) (fun k_ h_ => .inr h_)) (Kd.R_lt (by exact Kd.R_nw HO0_0.out))) (below_size (by exact bel0))) (an (blk_below (blk_nw BK0.out) hb) (an (blk_below (blk_nw BK296.out) hb) (an (Kept.below (S := (fun k_ => (P0_0_ k_) ∨ k_ = g)) (by repeat (first | (with_reducible first | exact HK.out | apply Kept.alloc | apply Kept.drewN | apply Kept.drew | refine Kept.setCell ?_ (.inl (.inr rfl)) _ | refine Kept.setCell ?_ (.inr GW296.out) _) | exact HK.out)) hb) (an (below_step (by exact bel0) hb) (trivial)))))); clear HO0_0 BK0 BK296 HK HB; obtain ⟨HO0_0, HO299, BK0, BK296, HK, HB, -⟩ := n_; (try clear hb); (try clear hb2); (try clear hk); (try clear hi); (try clear ho0)))
  go_loopg [6] k (fun kq v6 w' => ∃ (x6_1 : Int) (x1000_1 : List Int) (x1001_1 : Int) (x1002_1 : Int) (u1000 : Value), v6 = .int .i64 x6_1 ∧ Aside0 (impl_Prober_next.l0 kq t297 x6_1 x1000_1 x1001_1 x1002_1 a0_3 a0_4 a0_5 = some (r1, r2, r3, r4, r5, r6, r7)) ∧ Aside0 (kq ≤ k) ∧ Aside0 (Kd.R (Kd.int .i64) 3 w' w0.heap.size (fun k_ => (P0_0_ k_ ∨ w.heap.size ≤ k_) ∧ some k_ ≠ (u1000 : Value).ownBlock) v298 t297) ∧ Aside0 (Kd.R (Kd.int .i64) 3 w' w0.heap.size (fun k_ => (P0_0_ k_ ∨ w.heap.size ≤ k_) ∧ some k_ ≠ (v298 : Value).ownBlock) u1000 x1000_1) ∧ Aside0 (w'.heap[g]? = some (.cells #[u1000, .int .i64 x1001_1, .int .i64 x1002_1, .int .i64 a0_3, .int .i64 a0_4, .int .i64 a0_5] 90 (0, 0))) ∧ Aside0 (w'.heap[gb296]? = some (.cells #[.int .i64 a1_0, (.slice A1_1 l1_1.length c1_1)] 41 (0, 0))) ∧ Aside0 (Kept w w' (fun k_ => (P0_0_ k_) ∨ k_ = g)) ∧ Aside0 (Below w0.heap.size w0 w'))
  case atStart => exact ⟨(0), (l0_0), (a0_1), (a0_2), (u9000_), (by first | rfl | (simp; done) | (simp [*]; done)), H', ⟨Nat.le_refl _⟩, ⟨by exact Kd.R_nw (Kd.R_mono HO299.out (fun _ hk => ⟨hk.1.1, hk.2⟩))⟩, ⟨by exact Kd.R_nw HO0_0.out⟩, ⟨by exact blk_nw BK0.out⟩, ⟨by exact blk_nw BK296.out⟩, ⟨by repeat (first | (with_reducible first | exact HK.out | apply Kept.alloc | apply Kept.drewN | apply Kept.drew | refine Kept.setCell ?_ (.inl (.inr rfl)) _ | refine Kept.setCell ?_ (.inr GW296.out) _) | exact HK.out)⟩, ⟨by exact bel0⟩⟩
  case round =>
    clear H'
    try clear c1
    try clear p2
    try clear c5
    try clear hcz6_0
    try clear hcz6_1
    try clear hfz6_0
    try clear hfz6_1
    obtain ⟨x6_1, x1000_1, x1001_1, x1002_1, u1000, rfl, HA, HK1, HO_5, HO_1000, BK0, BK296, HK, HB⟩ := hrel
    cases gk with
    | zero => exact absurd HA.out (by simp [impl_Prober_next.l0])
    | succ k1 =>
      have H := HA.out
      clear HA
      simp only [impl_Prober_next.l0] at H
      have H' := Aside0.mk H
      clear H
      have hnb8 := NB0_296.out
      have hnc8 := NB296_0.out
      obtain ⟨hcz9_0, hcz9_1, hcz9_2, hcz9_3, hcz9_4, hcz9_5⟩ := blkz6 BK0.out
      have hfz9_0 := blkf BK0.out
      go_wp2
      go_loopg [7] k1 (fun kq v7 w' => ∃ (x7_2 : Int) (x1001_2 : Int), v7 = .int .i64 x7_2 ∧ Aside0 (impl_Prober_next.l1 kq t297 x6_1 x7_2 x1000_1 x1001_2 x1002_1 a0_3 a0_4 a0_5 = some (r1, r2, r3, r4, r5, r6, r7)) ∧ Aside0 (kq ≤ k1) ∧ Aside0 (Kd.R (Kd.int .i64) 3 w' w0.heap.size (fun k_ => (P0_0_ k_ ∨ w.heap.size ≤ k_) ∧ some k_ ≠ (u1000 : Value).ownBlock) v298 t297) ∧ Aside0 (Kd.R (Kd.int .i64) 3 w' w0.heap.size (fun k_ => (P0_0_ k_ ∨ w.heap.size ≤ k_) ∧ some k_ ≠ (v298 : Value).ownBlock) u1000 x1000_1) ∧ Aside0 (w'.heap[g]? = some (.cells #[u1000, .int .i64 x1001_2, .int .i64 x1002_1, .int .i64 a0_3, .int .i64 a0_4, .int .i64 a0_5] 90 (0, 0))) ∧ Aside0 (w'.heap[gb296]? = some (.cells #[.int .i64 a1_0, (.slice A1_1 l1_1.length c1_1)] 41 (0, 0))) ∧ Aside0 (Kept w w' (fun k_ => (P0_0_ k_) ∨ k_ = g)) ∧ Aside0 (Below w0.heap.size w0 w'))
      case atStart => exact ⟨(x1001_1), (x1001_1), (by first | rfl | (simp; done) | (simp [*]; done)), H', ⟨Nat.le_refl _⟩, ⟨by exact Kd.R_nw HO_5.out⟩, ⟨by exact Kd.R_nw HO_1000.out⟩, ⟨by exact blk_nw BK0.out⟩, ⟨by exact blk_nw BK296.out⟩, ⟨by repeat (first | (with_reducible first | exact HK.out | apply Kept.alloc | apply Kept.drewN | apply Kept.drew | refine Kept.setCell ?_ (.inl (.inr rfl)) _ | refine Kept.setCell ?_ (.inr GW296.out) _) | exact HK.out)⟩, ⟨by exact bel0⟩⟩
      case round =>
        clear H'
        try clear c1
        try clear p2
        try clear c5
        try clear c8
        try clear hcz6_0
        try clear hcz6_1
        try clear hcz9_0
        try clear hcz9_1
        try clear hcz9_2
        try clear hcz9_3
        try clear hcz9_4
        try clear hcz9_5
        try clear hfz6_0
        try clear hfz6_1
        try clear hfz9_0
        try clear hfz9_1
        try clear hfz9_2
        try clear hfz9_3
        try clear hfz9_4
        try clear hfz9_5
        try clear p2
        obtain ⟨x7_2, x1001_2, rfl, HA, HK2, HO_5, HO_1000, BK0, BK296, HK, HB⟩ := hrel
        cases gk with
        | zero => exact absurd HA.out (by simp [impl_Prober_next.l1])
        | succ k2 =>
          have H := HA.out
          clear HA
          simp only [impl_Prober_next.l1] at H
          by_cases c10 : x7_2 < (x1000_1.length : Int)
          · rw [if_pos c10] at H
            have c10b0 : decide (x7_2 < (x1000_1.length : Int)) = true := decide_eq_true c10
            clear c10
            (try simp only [c10b0])
            by_cases c11 : 0 ≤ x7_2
            · rw [if_pos c11] at H
              have c11b0 : decide (0 ≤ x7_2) = true := decide_eq_true c11
              clear c11
              (try simp only [c11b0])
              replace H := Option.bind_eq_some_iff.mp H
              obtain ⟨t301, A120, H⟩ := H
              have A12 := Aside0.mk A120
              clear A120
              have hnb13 := NB0_296.out
              have hnc13 := NB296_0.out
              obtain ⟨hcz14_0, hcz14_1, hcz14_2, hcz14_3, hcz14_4, hcz14_5⟩ := blkz6 BK0.out
              have hfz14_0 := blkf BK0.out
              obtain ⟨Ao15, co15, eo15⟩ := Kd.R_slice HO_1000.out
              subst eo15
              have p300 : 0 ≤ (x7_2 : Int) := of_decide_eq_true (by first | (with_reducible assumption) | assumption)
              have q300 : x7_2 < (x1000_1.length : Int) := of_decide_eq_true (by first | (with_reducible assumption) | assumption)
              obtain ⟨ad300, e300, hx300_0⟩ := Kd.at_int (Kd.R_reads' HO_1000.out).2.2 x7_2 p300 q300
              cases e300
              replace p300 := eq_true p300
              replace q300 := eq_true q300
              obtain ⟨Ao16, co16, eo16⟩ := Kd.R_slice HO_5.out
              subst eo16
              replace H := Aside0.mk H
              go_wp2_with (first | ((with_reducible refine gate_callee (f := 145) rfl ?_); refine goesL_ (some 33) rfl rfl Try.func145 (by kernel_rfl) rfl #[.slice Ao16 t297.length co16, .int .i64 (rd x1000_1 x7_2)] rfl (by (try simp only [List.map_toArray, List.map_cons, List.map_nil]); first | done | rfl | (simp only [List.length_drop, List.length_take]; rfl)) ?_; (with_reducible refine (slices_Contains_int_int.calls k2 _ _ t297 (rd x1000_1 x7_2) t301 _ ?side1 ?side2 A12.out).mono ?_); (case side1 => repeat (first | exact (Kd.R_reads' HO_5.out).2.2 | (with_reducible refine Kd.C_alloc ?_ _) | (with_reducible refine Kd.C_drewN ?_ _) | (with_reducible refine Kd.C_drew ?_))); (case side2 => exact (Kd.R_reads' HO_5.out).2.1); rintro e w' ⟨rfl, ⟨nd, rfl⟩⟩; refine ⟨_, rfl, ?_⟩; (try (rw [drewN_self wr]; generalize hq_ : World.drewN wr _ = wr; have n0_ : Aside0 (Kd.R (Kd.int .i64) 3 wr w0.heap.size (fun k_ => (P0_0_ k_ ∨ w.heap.size ≤ k_) ∧ some k_ ≠ (.slice Ao16 t297.length co16 : Value).ownBlock) (.slice (some ad300) x1000_1.length co15) x1000_1) := ⟨by rw [← hq_]; exact (by exact Kd.R_nw HO_1000.out)⟩; have n1_ : Aside0 (Kd.R (Kd.int .i64) 3 wr w0.heap.size (fun k_ => (P0_0_ k_ ∨ w.heap.size ≤ k_) ∧ some k_ ≠ (.slice (some ad300) x1000_1.length co15 : Value).ownBlock) (.slice Ao16 t297.length co16) t297) := ⟨by rw [← hq_]; exact (by exact Kd.R_nw HO_5.out)⟩; have n2_ : Aside0 (wr.heap[g]? = some (.cells #[.slice (some ad300) x1000_1.length co15, .int .i64 x1001_2, .int .i64 x1002_1, .int .i64 a0_3, .int .i64 a0_4, .int .i64 a0_5] 90 (0, 0))) := ⟨by rw [← hq_]; exact (by exact blk_nw BK0.out)⟩; have n3_ : Aside0 (wr.heap[gb296]? = some (.cells #[.int .i64 a1_0, .slice A1_1 l1_1.length c1_1] 41 (0, 0))) := ⟨by rw [← hq_]; exact (by exact blk_nw BK296.out)⟩; have n4_ : Aside0 (Kept w wr (fun k_ => (P0_0_ k_) ∨ k_ = g)) := ⟨by rw [← hq_]; exact (by repeat (first | (with_reducible first | exact HK.out | apply Kept.alloc | apply Kept.drewN | apply Kept.drew | refine Kept.setCell ?_ (.inl (.inr rfl)) _ | refine Kept.setCell ?_ (.inr GW296.out) _) | exact HK.out))⟩; have n5_ : Aside0 (Below w0.heap.size w0 wr) := ⟨by rw [← hq_]; exact (by exact bel0)⟩; clear HO_1000 HO_5 BK0 BK296 HK HB hq_; have HO_1000 := n0_; have HO_5 := n1_; have BK0 := n2_; have BK296 := n3_; have HK := n4_; have HB := n5_; clear n0_ n1_ n2_ n3_ n4_ n5_)); refine Stop.out ?_))
              refine Stop.mk ?_
              replace H := H.out
              by_cases c17 : t301 = true
              · subst c17
                rw [if_pos rfl] at H
                simp only [Option.some.injEq, Prod.mk.injEq] at H
                obtain ⟨rfl, rfl, rfl, rfl, rfl, rfl, rfl⟩ := H
                have hnb18 := NB0_296.out
                have hnc18 := NB296_0.out
                obtain ⟨hcz19_0, hcz19_1, hcz19_2, hcz19_3, hcz19_4, hcz19_5⟩ := blkz6 BK0.out
                have hfz19_0 := blkf BK0.out
                have p302 : 0 ≤ (x7_2 : Int) := of_decide_eq_true (by first | (with_reducible assumption) | assumption)
                have q302 : x7_2 < (x1000_1.length : Int) := of_decide_eq_true (by first | (with_reducible assumption) | assumption)
                obtain ⟨ad302, e302, hx302_0⟩ := Kd.at_int (Kd.R_reads' HO_1000.out).2.2 x7_2 p302 q302
                obtain rfl : ad300 = ad302 := (by injection e302)
                have hn302_0 : ad300.block ≠ g := Kd.own_blk (Kd.R_ne HO_1000.out BK0.out (by decide))
                replace hx302_0 := (cell_far (p := ⟨g, 1, none⟩) (by first | (rw [add_block]; exact hn302_0) | (show (Addr.add _ _).block ≠ _; rw [add_block]; exact hn302_0) | exact hn302_0) (.int .i64 (wrap64 (x7_2 + 1)))).trans hx302_0
                clear hn302_0
                replace p302 := eq_true p302
                replace q302 := eq_true q302
                go_wp2
                go_ret
                exact ⟨by first | rfl | (simp [errW_none, errW_some] <;> rfl) | (simp [*, errW_none, errW_some] <;> rfl), (.slice (some ad300) x1000_1.length co15), by exact Kd.R_mono (Kd.R_farN HO_1000.out BK0.out) (fun _ hk => hk.1), by (with_reducible repeat (first | refine blk_drewN ?_ _ | refine blk_drew ?_ | refine blk_alloc ?_ _)); refine blk_put (cs := #[.slice (some ad300) x1000_1.length co15, .int .i64 x1001_2, .int .i64 x1002_1, .int .i64 a0_3, .int .i64 a0_4, .int .i64 a0_5]) ?_ 1 _ rfl; (with_reducible repeat (first | refine blk_drewN ?_ _ | refine blk_drew ?_ | refine blk_alloc ?_ _)); exact BK0.out, by exact bel0, by repeat (first | (with_reducible first | exact HK.out | apply Kept.alloc | apply Kept.drewN | apply Kept.drew | refine Kept.setCell ?_ (.inl (.inr rfl)) _ | refine Kept.setCell ?_ (.inr GW296.out) _) | exact HK.out)⟩
              · replace c17 := Bool.eq_false_iff.mpr c17
                subst c17
                rw [if_neg (show ¬ (false = true) by decide)] at H
                have H' := Aside0.mk H
                clear H
                go_wp2
                go_roundg k2
                case measure => have := HK1.out; have := HK2.out; omega
                case rel => exact ⟨(wrap64 (x7_2 + 1)), (x1001_2), (by first | rfl | (simp; done) | (simp [*]; done)), H', ⟨by have := HK1.out; have := HK2.out; omega⟩, ⟨by exact Kd.R_nw HO_5.out⟩, ⟨by exact Kd.R_nw HO_1000.out⟩, ⟨by exact blk_nw BK0.out⟩, ⟨by exact blk_nw BK296.out⟩, ⟨by repeat (first | (with_reducible first | exact HK.out | apply Kept.alloc | apply Kept.drewN | apply Kept.drew | refine Kept.setCell ?_ (.inl (.inr rfl)) _ | refine Kept.setCell ?_ (.inr GW296.out) _) | exact HK.out)⟩, ⟨by exact bel0⟩⟩
            · rw [if_neg c11] at H
              exact absurd H (by simp)
          · rw [if_neg c10] at H
            have c10b0 : decide (x7_2 < (x1000_1.length : Int)) = false := decide_eq_false c10
            clear c10
            (try simp only [c10b0])
            replace H := Option.bind_eq_some_iff.mp H
            obtain ⟨⟨t303, t304⟩, A200, H⟩ := H
            replace H : (if x6_1 = 1 then (some ((-1), t303, 0, t304, a0_3, a0_4, a0_5)) else (impl_Prober_next.l0 k2 t297 (wrap64 (x6_1 + 1)) t303 0 t304 a0_3 a0_4 a0_5)) = some (r1, r2, r3, r4, r5, r6, r7) := H
            have A20 := Aside0.mk A200
            clear A200
            have hnb21 := NB0_296.out
            have hnc21 := NB296_0.out
            obtain ⟨hcz22_0, hcz22_1, hcz22_2, hcz22_3, hcz22_4, hcz22_5⟩ := blkz6 BK0.out
            have hfz22_0 := blkf BK0.out
            obtain ⟨Ao23, co23, eo23⟩ := Kd.R_slice HO_1000.out
            subst eo23
            obtain ⟨Ao24, co24, eo24⟩ := Kd.R_slice HO_5.out
            subst eo24
            replace H := Aside0.mk H
            go_wp2_with (first | ((with_reducible refine gate_callee (f := 160) rfl ?_); refine goesL_ (some 54) rfl rfl Try.func160 (by kernel_rfl) rfl #[.slice Ao24 t297.length co24, .int .i64 x1002_1] rfl (by (try simp only [List.map_toArray, List.map_cons, List.map_nil]); first | done | rfl | (simp only [List.length_drop, List.length_take]; rfl)) ?_; (with_reducible refine (impl_Shuffle.calls k2 _ _ t297 x1002_1 t303 t304 _ ?side1 ?side2 A20.out).mono ?_); (case side1 => repeat (first | exact (Kd.R_reads' HO_5.out).2.2 | (with_reducible refine Kd.C_alloc ?_ _) | (with_reducible refine Kd.C_drewN ?_ _) | (with_reducible refine Kd.C_drew ?_))); (case side2 => exact (Kd.R_reads' HO_5.out).2.1); rintro e w25 ⟨v305, rfl, ho0, hb⟩; refine ⟨_, rfl, ?_⟩; have n_ := an (Kd.R_elder' (by exact Kd.R_nw HO_5.out) (Kd.R_base ho0) hb) (an (Kd.R_elder' (by exact Kd.R_nw HO_1000.out) (Kd.R_base ho0) hb) (an (Kd.R_lower (Kd.R_new' (Kd.R_new' (Kd.R_newM (M := fun k_ => (P0_0_ k_ ∨ w.heap.size ≤ k_)) ho0 (by first | exact HK.out.1 | exact (show Kept w _ (fun k_ => (P0_0_ k_) ∨ k_ = g) from by repeat (first | (with_reducible first | exact HK.out | apply Kept.alloc | apply Kept.drewN | apply Kept.drew | refine Kept.setCell ?_ (.inl (.inr rfl)) _ | refine Kept.setCell ?_ (.inr GW296.out) _) | exact HK.out)).1) (fun k_ h_ => .inr h_)) (Kd.R_lt (by exact Kd.R_nw HO_5.out))) (Kd.R_lt (by exact Kd.R_nw HO_1000.out))) (below_size (by exact bel0))) (an (blk_below (blk_nw BK0.out) hb) (an (blk_below (blk_nw BK296.out) hb) (an (Kept.below (S := (fun k_ => (P0_0_ k_) ∨ k_ = g)) (by repeat (first | (with_reducible first | exact HK.out | apply Kept.alloc | apply Kept.drewN | apply Kept.drew | refine Kept.setCell ?_ (.inl (.inr rfl)) _ | refine Kept.setCell ?_ (.inr GW296.out) _) | exact HK.out)) hb) (an (below_step (by exact bel0) hb) (trivial))))))); clear HO_5 HO_1000 BK0 BK296 HK HB; obtain ⟨HO_5, HO_1000, HO306, BK0, BK296, HK, HB, -⟩ := n_; (try clear hb); (try clear hb2); (try clear hk); (try clear hi); (try clear ho0); obtain ⟨Ao26, co26, eo26⟩ := Kd.R_slice HO306.out; subst eo26; obtain ⟨hcz27_0, hcz27_1, hcz27_2, hcz27_3, hcz27_4, hcz27_5⟩ := blkz6 BK0.out; have hfz27_0 := blkf BK0.out; refine Stop.out ?_))
            refine Stop.mk ?_
            replace H := H.out
            by_cases c28 : x6_1 = 1
            · rw [if_pos c28] at H
              have c28b0 : (x6_1 == 1) = true := beq_iff_eq.mpr c28
              have c28b1 : (x6_1 != 1) = false := bne_eq_false_iff_eq.mpr c28
              clear c28
              simp only [Option.some.injEq, Prod.mk.injEq] at H
              obtain ⟨rfl, rfl, rfl, rfl, rfl, rfl, rfl⟩ := H
              go_wp2
              go_ret
              exact ⟨by first | rfl | (simp [errW_none, errW_some] <;> rfl) | (simp [*, errW_none, errW_some] <;> rfl), (.slice Ao26 t303.length co26), by exact Kd.R_mono (Kd.R_farN HO306.out BK0.out) (fun _ hk => hk.1.1.1), by (with_reducible repeat (first | refine blk_drewN ?_ _ | refine blk_drew ?_ | refine blk_alloc ?_ _)); refine blk_put (cs := #[.slice Ao26 t303.length co26, .int .i64 x1001_2, .int .i64 t304, .int .i64 a0_3, .int .i64 a0_4, .int .i64 a0_5]) ?_ 1 _ rfl; (with_reducible repeat (first | refine blk_drewN ?_ _ | refine blk_drew ?_ | refine blk_alloc ?_ _)); refine blk_put (cs := #[.slice Ao26 t303.length co26, .int .i64 x1001_2, .int .i64 x1002_1, .int .i64 a0_3, .int .i64 a0_4, .int .i64 a0_5]) ?_ 2 _ rfl; (with_reducible repeat (first | refine blk_drewN ?_ _ | refine blk_drew ?_ | refine blk_alloc ?_ _)); refine blk_put (cs := #[.slice Ao23 x1000_1.length co23, .int .i64 x1001_2, .int .i64 x1002_1, .int .i64 a0_3, .int .i64 a0_4, .int .i64 a0_5]) ?_ 0 _ rfl; (with_reducible repeat (first | refine blk_drewN ?_ _ | refine blk_drew ?_ | refine blk_alloc ?_ _)); exact BK0.out, by exact bel0, by repeat (first | (with_reducible first | exact HK.out | apply Kept.alloc | apply Kept.drewN | apply Kept.drew | refine Kept.setCell ?_ (.inl (.inr rfl)) _ | refine Kept.setCell ?_ (.inr GW296.out) _) | exact HK.out)⟩
            · rw [if_neg c28] at H
              have c28b0 : (x6_1 == 1) = false := beq_eq_false_iff_ne.mpr c28
              have c28b1 : (x6_1 != 1) = true := bne_iff_ne.mpr c28
              have H' := Aside0.mk H
              clear H
              go_wp2
              go_roundg k2
              case measure => have := HK1.out; have := HK2.out; omega
              case rel => exact ⟨(wrap64 (x6_1 + 1)), (t303), (0), (t304), (.slice Ao26 t303.length co26), (by first | rfl | (simp; done) | (simp [*]; done)), H', ⟨by have := HK1.out; have := HK2.out; omega⟩, ⟨by exact Kd.R_mono (Kd.R_farN HO_5.out BK0.out) (fun _ hk => ⟨hk.1.1, hk.2⟩)⟩, ⟨by exact Kd.R_mono (Kd.R_farN HO306.out BK0.out) (fun _ hk => ⟨hk.1.1.1, hk.1.2⟩)⟩, ⟨by (with_reducible repeat (first | refine blk_drewN ?_ _ | refine blk_drew ?_ | refine blk_alloc ?_ _)); refine blk_put (cs := #[.slice Ao26 t303.length co26, .int .i64 x1001_2, .int .i64 t304, .int .i64 a0_3, .int .i64 a0_4, .int .i64 a0_5]) ?_ 1 _ rfl; (with_reducible repeat (first | refine blk_drewN ?_ _ | refine blk_drew ?_ | refine blk_alloc ?_ _)); refine blk_put (cs := #[.slice Ao26 t303.length co26, .int .i64 x1001_2, .int .i64 x1002_1, .int .i64 a0_3, .int .i64 a0_4, .int .i64 a0_5]) ?_ 2 _ rfl; (with_reducible repeat (first | refine blk_drewN ?_ _ | refine blk_drew ?_ | refine blk_alloc ?_ _)); refine blk_put (cs := #[.slice Ao23 x1000_1.length co23, .int .i64 x1001_2, .int .i64 x1002_1, .int .i64 a0_3, .int .i64 a0_4, .int .i64 a0_5]) ?_ 0 _ rfl; (with_reducible repeat (first | refine blk_drewN ?_ _ | refine blk_drew ?_ | refine blk_alloc ?_ _)); exact BK0.out⟩, ⟨by exact blk_kb BK296.out NB296_0.out⟩, ⟨by repeat (first | (with_reducible first | exact HK.out | apply Kept.alloc | apply Kept.drewN | apply Kept.drew | refine Kept.setCell ?_ (.inl (.inr rfl)) _ | refine Kept.setCell ?_ (.inr GW296.out) _) | exact HK.out)⟩, ⟨by exact bel0⟩⟩

/-! ### impl_NextProbe: function 64 -/
def impl_NextProbe.j0 : Nat → Bool → List Int → Int → Int → Int → Int → Int → Int → List (S82) → Option (List Int × Int × Int × Int × Int × Int × Int)
  | 0, _, _, _, _, _, _, _, _, _ => none
  | k + 1, x15, x308000, x308001, x308002, x308003, x308004, x308005, x309000, x309001 => if x15 = true then (some (([] : List Int), 0, 0, 0, 0, 0, (-1))) else ((impl_Prober_own.f x308000 x308001 x308002 x308003 x308004 x308005).bind fun bt312 => ((impl_Prober_next.f k bt312.1 bt312.2.1 bt312.2.2.1 bt312.2.2.2.1 bt312.2.2.2.2.1 bt312.2.2.2.2.2 x309000 x309001).bind fun bt321 => (some (bt321.2.1, bt321.2.2.1, bt321.2.2.2.1, bt321.2.2.2.2.1, bt321.2.2.2.2.2.1, bt321.2.2.2.2.2.2, bt321.1))))
def impl_NextProbe.f (k : Nat) (l0_0 : List Int) (a0_1 : Int) (a0_2 : Int) (a0_3 : Int) (a0_4 : Int) (a0_5 : Int) (a1_0 : Int) (l1_1 : List (S82)) : Option (List Int × Int × Int × Int × Int × Int × Int) := (impl_ProberOk.f k l0_0 a0_1 a0_2 a0_3 a0_4 a0_5).bind fun t310 => (if t310 = true then ((impl_TableOk.f k a1_0 l1_1).bind fun t311 => (impl_NextProbe.j0 k (!t311) l0_0 a0_1 a0_2 a0_3 a0_4 a0_5 a1_0 l1_1)) else (impl_NextProbe.j0 k true l0_0 a0_1 a0_2 a0_3 a0_4 a0_5 a1_0 l1_1))
theorem impl_NextProbe.mono_l : ∀ k, (∀ y0 y1 y2 y3 y4 y5 y6 y7 y8, LeO (impl_NextProbe.j0 k y0 y1 y2 y3 y4 y5 y6 y7 y8) (impl_NextProbe.j0 (k + 1) y0 y1 y2 y3 y4 y5 y6 y7 y8))
  | 0 => fun _ _ _ _ _ _ _ _ _ r h => by simp [impl_NextProbe.j0] at h
  | k + 1 => by
    have ih0 := impl_NextProbe.mono_l k
    · intro y0 y1 y2 y3 y4 y5 y6 y7 y8
      unfold impl_NextProbe.j0
      repeat' first
      | (with_reducible exact ih0 _ _ _ _ _ _ _ _ _)
      | (with_reducible exact impl_ProberOk.mono _ _ _ _ _ _ _)
      | (with_reducible exact impl_Prober_next.mono _ _ _ _ _ _ _ _ _)
      | (with_reducible exact impl_TableOk.mono _ _ _)
      | (with_reducible exact LeO.refl _)
      | (with_reducible exact LeO.none _)
      | (with_reducible refine LeO.ite ?_ ?_)
      | (with_reducible refine LeO.bind ?_ (fun _ => ?_))
      | exact ih0 _ _ _ _ _ _ _ _ _
      | exact impl_ProberOk.mono _ _ _ _ _ _ _
      | exact impl_Prober_next.mono _ _ _ _ _ _ _ _ _
      | exact impl_TableOk.mono _ _ _
      | exact LeO.none _
      | refine LeO.ite ?_ ?_
      | refine LeO.bind ?_ (fun _ => ?_)
theorem impl_NextProbe.mono : ∀ a0 a1 a2 a3 a4 a5 a6 a7 k, LeO (impl_NextProbe.f k a0 a1 a2 a3 a4 a5 a6 a7) (impl_NextProbe.f (k + 1) a0 a1 a2 a3 a4 a5 a6 a7) := by
  intro a0 a1 a2 a3 a4 a5 a6 a7 k
  have ih0 := impl_NextProbe.mono_l k
  unfold impl_NextProbe.f
  repeat' first
      | (with_reducible exact ih0 _ _ _ _ _ _ _ _ _)
      | (with_reducible exact impl_ProberOk.mono _ _ _ _ _ _ _)
      | (with_reducible exact impl_Prober_next.mono _ _ _ _ _ _ _ _ _)
      | (with_reducible exact impl_TableOk.mono _ _ _)
      | (with_reducible exact LeO.refl _)
      | (with_reducible exact LeO.none _)
      | (with_reducible refine LeO.ite ?_ ?_)
      | (with_reducible refine LeO.bind ?_ (fun _ => ?_))
      | exact ih0 _ _ _ _ _ _ _ _ _
      | exact impl_ProberOk.mono _ _ _ _ _ _ _
      | exact impl_Prober_next.mono _ _ _ _ _ _ _ _ _
      | exact impl_TableOk.mono _ _ _
      | exact LeO.none _
      | refine LeO.ite ?_ ?_
      | refine LeO.bind ?_ (fun _ => ?_)
set_option maxHeartbeats 8000000 in
set_option maxRecDepth 100000 in
theorem impl_NextProbe.calls (k : Nat) (A0_0 : Option Addr) (c0_0 : Nat) (l0_0 : List Int) (a0_1 : Int) (a0_2 : Int) (a0_3 : Int) (a0_4 : Int) (a0_5 : Int) (a1_0 : Int) (A1_1 : Option Addr) (c1_1 : Nat) (l1_1 : List (S82)) (r1 : List Int) (r2 : Int) (r3 : Int) (r4 : Int) (r5 : Int) (r6 : Int) (r7 : Int) (w : World) (hr0_0 : Kd.C (Kd.int .i64) w A0_0 l0_0.length l0_0) (hc0_0 : l0_0.length ≤ c0_0) (hr1_1 : Kd.C k82 w A1_1 l1_1.length l1_1) (hc1_1 : l1_1.length ≤ c1_1) (h : impl_NextProbe.f k l0_0 a0_1 a0_2 a0_3 a0_4 a0_5 a1_0 l1_1 = some (r1, r2, r3, r4, r5, r6, r7)) :
    Calls Try.prog 64 #[.agg #[.slice A0_0 l0_0.length c0_0, .int .i64 a0_1, .int .i64 a0_2, .int .i64 a0_3, .int .i64 a0_4, .int .i64 a0_5], .agg #[.int .i64 a1_0, .slice A1_1 l1_1.length c1_1]] w fun e w' => ∃ v0_ : Value, e = .returned (.tuple #[.agg #[v0_, .int .i64 r2, .int .i64 r3, .int .i64 r4, .int .i64 r5, .int .i64 r6], .int .i64 r7]) ∧ Kd.R (Kd.int .i64) 3 w' w.heap.size (fun _ => True) v0_ r1 ∧ Below w.heap.size w w' := by
  have hu90 := Try.underlying90
  have hu41 := Try.underlying41
  have HR0_0 := Aside0.mk hr0_0
  have HC0_0 := Aside0.mk hc0_0
  clear hr0_0 hc0_0
  have HR1_1 := Aside0.mk hr1_1
  have HC1_1 := Aside0.mk hc1_1
  clear hr1_1 hc1_1
  have HB := Aside0.mk (Below.refl w.heap.size w)
  have H : ((impl_ProberOk.f k l0_0 a0_1 a0_2 a0_3 a0_4 a0_5).bind fun t310 => (if t310 = true then ((impl_TableOk.f k a1_0 l1_1).bind fun t311 => (impl_NextProbe.j0 k (!t311) l0_0 a0_1 a0_2 a0_3 a0_4 a0_5 a1_0 l1_1)) else (impl_NextProbe.j0 k true l0_0 a0_1 a0_2 a0_3 a0_4 a0_5 a1_0 l1_1))) = some (r1, r2, r3, r4, r5, r6, r7) := h
  clear h
  have HC3 := Aside0.mk H
  clear H
  go_enter Try.func64, Try.ntmps64
  go_upto_region 1 with (first | ((with_reducible refine gate_dst (N := 2) rfl ?_); refine box_event ?hg (N := 2) ?hd (cs := #[.slice A0_0 l0_0.length c0_0, .int .i64 a0_1, .int .i64 a0_2, .int .i64 a0_3, .int .i64 a0_4, .int .i64 a0_5]) (t := 90) ?hr ?_; (case hd => rfl); (case hg => rfl); (case hr => first | (go_simp; done) | (go_simp; rfl)); intro gb307 hg w4 hbox hb; have n_ := an (below_step (by exact bel0) hb) (an (hbox) (an ((by rw [hg]; exact (below_size (by exact bel0)) : w.heap.size ≤ gb307)) (an ((by rw [hg]; exact (below_size (by exact bel0)) : w.heap.size ≤ gb307)) (trivial)))); clear HB; obtain ⟨HB, BK307, GW307, GE307, -⟩ := n_; clear hb hbox hg) | ((with_reducible refine gate_dst (N := 3) rfl ?_); refine box_event ?hg (N := 3) ?hd (cs := #[.int .i64 a1_0, .slice A1_1 l1_1.length c1_1]) (t := 41) ?hr ?_; (case hd => rfl); (case hg => rfl); (case hr => first | (go_simp; done) | (go_simp; rfl)); intro gb308 hg w5 hbox hb; have n_ := an (blk_below (blk_nw BK307.out) hb) (an (below_step (by exact bel0) hb) (an (hbox) (an ((by rw [hg]; exact (below_size (by exact bel0)) : w.heap.size ≤ gb308)) (an ((by rw [hg]; exact (below_size (by exact bel0)) : w.heap.size ≤ gb308)) (an ((by rw [hg]; exact Nat.ne_of_lt (blk_lt (blk_nw BK307.out)) : gb307 ≠ gb308)) (an ((by rw [hg]; exact Nat.ne_of_gt (blk_lt (blk_nw BK307.out)) : gb308 ≠ gb307)) (trivial))))))); clear BK307 HB; obtain ⟨BK307, HB, BK308, GW308, GE308, NB307_308, NB308_307, -⟩ := n_; clear hb hbox hg) | ((with_reducible refine gate_dst (N := 4) rfl ?_); refine box_event ?hg (N := 4) ?hd (cs := #[.slice none 0 0, .int .i64 0, .int .i64 0, .int .i64 0, .int .i64 0, .int .i64 0]) (t := 90) ?hr ?_; (case hd => rfl); (case hg => rfl); (case hr => first | (go_simp; done) | (go_simp; rfl)); intro gb309 hg w6 hbox hb; have n_ := an (blk_below (blk_nw BK307.out) hb) (an (blk_below (blk_nw BK308.out) hb) (an (below_step (by exact bel0) hb) (an (hbox) (an ((by rw [hg]; exact (below_size (by exact bel0)) : w.heap.size ≤ gb309)) (an ((by rw [hg]; exact (below_size (by exact bel0)) : w.heap.size ≤ gb309)) (an ((by rw [hg]; exact Nat.ne_of_lt (blk_lt (blk_nw BK307.out)) : gb307 ≠ gb309)) (an ((by rw [hg]; exact Nat.ne_of_gt (blk_lt (blk_nw BK307.out)) : gb309 ≠ gb307)) (an ((by rw [hg]; exact Nat.ne_of_lt (blk_lt (blk_nw BK308.out)) : gb308 ≠ gb309)) (an ((by rw [hg]; exact Nat.ne_of_gt (blk_lt (blk_nw BK308.out)) : gb309 ≠ gb308)) (trivial)))))))))); clear BK307 BK308 HB; obtain ⟨BK307, BK308, HB, BK309, GW309, GE309, NB307_309, NB309_307, NB308_309, NB309_308, -⟩ := n_; clear hb hbox hg))
  (try simp only [Act.put, List.setIfInBounds_toArray, List.set_cons_zero, List.set_cons_succ])
  go_cut [15] (fun v15 wc => ∃ (kq : Nat) (x15_2 : Bool), v15 = .bool x15_2 ∧ Aside0 (impl_NextProbe.j0 kq x15_2 l0_0 a0_1 a0_2 a0_3 a0_4 a0_5 a1_0 l1_1 = some (r1, r2, r3, r4, r5, r6, r7)) ∧ Aside0 (kq ≤ k) ∧ Aside0 (wc.heap[gb307]? = some (.cells #[(.slice A0_0 l0_0.length c0_0), .int .i64 a0_1, .int .i64 a0_2, .int .i64 a0_3, .int .i64 a0_4, .int .i64 a0_5] 90 (0, 0))) ∧ Aside0 (wc.heap[gb308]? = some (.cells #[.int .i64 a1_0, (.slice A1_1 l1_1.length c1_1)] 41 (0, 0))) ∧ Aside0 (wc.heap[gb309]? = some (.cells #[(.slice none 0 0), .int .i64 0, .int .i64 0, .int .i64 0, .int .i64 0, .int .i64 0] 90 (0, 0))) ∧ Aside0 (Below w.heap.size w wc))
  case first =>
    have H := HC3.out
    clear HC3
    replace H := Option.bind_eq_some_iff.mp H
    obtain ⟨t310, A70, H⟩ := H
    have A7 := Aside0.mk A70
    clear A70
    have hnb8 := NB307_308.out
    have hnc8 := NB308_307.out
    have hnb9 := NB307_309.out
    have hnc9 := NB309_307.out
    obtain ⟨hcz10_0, hcz10_1, hcz10_2, hcz10_3, hcz10_4, hcz10_5⟩ := blkz6 BK307.out
    have hfz10_0 := blkf BK307.out
    replace H := Aside0.mk H
    go_wp2_with (first | ((with_reducible refine gate_callee (f := 122) rfl ?_); refine goesL_ (some 9) rfl rfl Try.func122 (by kernel_rfl) rfl #[.agg #[.slice A0_0 l0_0.length c0_0, .int .i64 a0_1, .int .i64 a0_2, .int .i64 a0_3, .int .i64 a0_4, .int .i64 a0_5]] rfl (by (try simp only [List.map_toArray, List.map_cons, List.map_nil]); first | done | rfl | (simp only [List.length_drop, List.length_take]; rfl)) ?_; (with_reducible refine (impl_ProberOk.calls k _ _ l0_0 a0_1 a0_2 a0_3 a0_4 a0_5 t310 _ ?side1 ?side2 A7.out).mono ?_); (case side1 => repeat (first | exact (Kd.C_below HR0_0.out HB.out) | (with_reducible refine Kd.C_alloc ?_ _) | (with_reducible refine Kd.C_drewN ?_ _) | (with_reducible refine Kd.C_drew ?_))); (case side2 => exact HC0_0.out); rintro e w11 ⟨rfl, hb⟩; refine ⟨_, rfl, ?_⟩; have n_ := an (blk_below (blk_nw BK307.out) hb) (an (blk_below (blk_nw BK308.out) hb) (an (blk_below (blk_nw BK309.out) hb) (an (below_step (by exact bel0) hb) (trivial)))); clear BK307 BK308 BK309 HB; obtain ⟨BK307, BK308, BK309, HB, -⟩ := n_; (try clear hb); (try clear hb2); (try clear hk); (try clear hi); refine Stop.out ?_))
    refine Stop.mk ?_
    replace H := H.out
    by_cases c12 : t310 = true
    · subst c12
      rw [if_pos rfl] at H
      replace H := Option.bind_eq_some_iff.mp H
      obtain ⟨t311, A130, H⟩ := H
      have A13 := Aside0.mk A130
      clear A130
      have H' := Aside0.mk H
      clear H
      have hnb14 := NB308_307.out
      have hnc14 := NB307_308.out
      have hnb15 := NB308_309.out
      have hnc15 := NB309_308.out
      obtain ⟨hcz16_0, hcz16_1⟩ := blkz2 BK308.out
      have hfz16_0 := blkf BK308.out
      go_wp2_with (first | (go_at_call 81; (with_reducible refine (impl_TableOk.calls k a1_0 _ _ l1_1 t311 _ ?side1 ?side2 A13.out).mono ?_); (case side1 => repeat (first | exact (Kd.C_below HR1_1.out HB.out) | (with_reducible refine Kd.C_alloc ?_ _) | (with_reducible refine Kd.C_drewN ?_ _) | (with_reducible refine Kd.C_drew ?_))); (case side2 => exact HC1_1.out); rintro e w17 ⟨rfl, hb⟩; have n_ := an (blk_below (blk_nw BK307.out) hb) (an (blk_below (blk_nw BK308.out) hb) (an (blk_below (blk_nw BK309.out) hb) (an (below_step (by exact bel0) hb) (trivial)))); clear BK307 BK308 BK309 HB; obtain ⟨BK307, BK308, BK309, HB, -⟩ := n_; (try clear hb); (try clear hb2); (try clear hk); (try clear hi)))
      go_meet
      case rel => exact ⟨_, (!t311), (by first | rfl | (simp; done) | (simp [*]; done)), H', ⟨by first | omega | exact Nat.le_refl _⟩, ⟨by exact blk_nw BK307.out⟩, ⟨by exact blk_nw BK308.out⟩, ⟨by exact blk_nw BK309.out⟩, ⟨by exact bel0⟩⟩
    · replace c12 := Bool.eq_false_iff.mpr c12
      subst c12
      rw [if_neg (show ¬ (false = true) by decide)] at H
      have H' := Aside0.mk H
      clear H
      go_wp2
      go_meet
      case rel => exact ⟨_, (true), (by first | rfl | (simp; done) | (simp [*]; done)), H', ⟨by first | omega | exact Nat.le_refl _⟩, ⟨by exact blk_nw BK307.out⟩, ⟨by exact blk_nw BK308.out⟩, ⟨by exact blk_nw BK309.out⟩, ⟨by exact bel0⟩⟩
  case rest =>
    clear HC3
    try clear c1
    try clear p2
    try clear c6
    try clear c8
    try clear c9
    try clear c12
    try clear c14
    try clear c15
    try clear hcz10_0
    try clear hcz10_1
    try clear hcz10_2
    try clear hcz10_3
    try clear hcz10_4
    try clear hcz10_5
    try clear hcz16_0
    try clear hcz16_1
    try clear hfz10_0
    try clear hfz10_1
    try clear hfz10_2
    try clear hfz10_3
    try clear hfz10_4
    try clear hfz10_5
    try clear hfz16_0
    try clear hfz16_1
    obtain ⟨kq, x15_2, rfl, HA, HJ2, BK307, BK308, BK309, HB⟩ := hcut
    cases kq with
    | zero => exact absurd HA.out (by simp [impl_NextProbe.j0])
    | succ kj2 =>
      have H := HA.out
      clear HA
      simp only [impl_NextProbe.j0] at H
      by_cases c18 : x15_2 = true
      · subst c18
        rw [if_pos rfl] at H
        simp only [Option.some.injEq, Prod.mk.injEq] at H
        obtain ⟨rfl, rfl, rfl, rfl, rfl, rfl, rfl⟩ := H
        have hnb19 := NB309_307.out
        have hnc19 := NB307_309.out
        have hnb20 := NB309_308.out
        have hnc20 := NB308_309.out
        obtain ⟨hcz21_0, hcz21_1, hcz21_2, hcz21_3, hcz21_4, hcz21_5⟩ := blkz6 BK309.out
        have hfz21_0 := blkf BK309.out
        go_wp2
        refine bodyPost_ret (results_ct rfl _ _ gb309 90 #[.slice none 0 0, .int .i64 0, .int .i64 0, .int .i64 0, .int .i64 0, .int .i64 0] (0, 0) _ rfl (by (with_reducible repeat (first | refine blk_drewN ?_ _ | refine blk_drew ?_ | refine blk_alloc ?_ _)); exact blk_fill6 BK309.out) Try.underlying90 rfl (by kernel_rfl)) rfl ?_
        exact ⟨_, by first | rfl | (simp [errW_none, errW_some] <;> rfl) | (simp [*, errW_none, errW_some] <;> rfl), by first | exact Kd.R_nil _ _ _ _ _ | exact Kd.N_nil _ _ _ _ _ | exact Kd.V_nil _ _ _ _ _ | exact Kd.Q_nil _ _ _ _ _ | exact Kd.S_nil _ _ _ _ _, by exact bel0⟩
      · replace c18 := Bool.eq_false_iff.mpr c18
        subst c18
        rw [if_neg (show ¬ (false = true) by decide)] at H
        replace H := Option.bind_eq_some_iff.mp H
        obtain ⟨⟨t312, t315, t316, t317, t318, t319⟩, A220, H⟩ := H
        replace H : ((impl_Prober_next.f kj2 t312 t315 t316 t317 t318 t319 a1_0 l1_1).bind fun bt321 => (some (bt321.2.1, bt321.2.2.1, bt321.2.2.2.1, bt321.2.2.2.2.1, bt321.2.2.2.2.2.1, bt321.2.2.2.2.2.2, bt321.1))) = some (r1, r2, r3, r4, r5, r6, r7) := H
        have A22 := Aside0.mk A220
        clear A220
        replace H := Option.bind_eq_some_iff.mp H
        obtain ⟨⟨t321, t322, t325, t326, t327, t328, t329⟩, A230, H⟩ := H
        replace H : (some (t322, t325, t326, t327, t328, t329, t321)) = some (r1, r2, r3, r4, r5, r6, r7) := H
        have A23 := Aside0.mk A230
        clear A230
        simp only [Option.some.injEq, Prod.mk.injEq] at H
        obtain ⟨rfl, rfl, rfl, rfl, rfl, rfl, rfl⟩ := H
        have hnb24 := NB307_308.out
        have hnc24 := NB308_307.out
        have hnb25 := NB307_309.out
        have hnc25 := NB309_307.out
        obtain ⟨hcz26_0, hcz26_1, hcz26_2, hcz26_3, hcz26_4, hcz26_5⟩ := blkz6 BK307.out
        have hfz26_0 := blkf BK307.out
        go_wp2_with (first | ((with_reducible refine gate_callee (f := 123) rfl ?_); refine goesL_ (some 18) rfl rfl Try.func123 (by kernel_rfl) rfl #[.agg #[.slice A0_0 l0_0.length c0_0, .int .i64 a0_1, .int .i64 a0_2, .int .i64 a0_3, .int .i64 a0_4, .int .i64 a0_5]] rfl (by (try simp only [List.map_toArray, List.map_cons, List.map_nil]); first | done | rfl | (simp only [List.length_drop, List.length_take]; rfl)) ?_; (with_reducible refine (impl_Prober_own.calls _ _ l0_0 a0_1 a0_2 a0_3 a0_4 a0_5 t312 t315 t316 t317 t318 t319 _ ?side1 ?side2 A22.out).mono ?_); (case side1 => repeat (first | exact (Kd.C_below HR0_0.out HB.out) | (with_reducible refine Kd.C_alloc ?_ _) | (with_reducible refine Kd.C_drewN ?_ _) | (with_reducible refine Kd.C_drew ?_))); (case side2 => exact HC0_0.out); rintro e w27 ⟨v313, rfl, ho0, hb⟩; refine ⟨_, rfl, ?_⟩; have n_ := an (Kd.R_lower ho0 (below_size (by exact bel0))) (an (blk_below (blk_nw BK307.out) hb) (an (blk_below (blk_nw BK308.out) hb) (an (blk_below (blk_nw BK309.out) hb) (an (below_step (by exact bel0) hb) (trivial))))); clear BK307 BK308 BK309 HB; obtain ⟨HO314, BK307, BK308, BK309, HB, -⟩ := n_; (try clear hb); (try clear hb2); (try clear hk); (try clear hi); (try clear ho0)) | ((with_reducible refine gate_dst (N := 6) rfl ?_); refine box_event ?hg (N := 6) ?hd (cs := #[.slice none 0 0, .int .i64 0, .int .i64 0, .int .i64 0, .int .i64 0, .int .i64 0]) (t := 90) ?hr ?_; (case hd => rfl); (case hg => rfl); (case hr => first | (go_simp; done) | (go_simp; rfl)); intro gb320 hg w28 hbox hb; have n_ := an (Kd.R_below (by exact Kd.R_nw HO314.out) hb) (an (blk_below (blk_nw BK307.out) hb) (an (blk_below (blk_nw BK308.out) hb) (an (blk_below (blk_nw BK309.out) hb) (an (below_step (by exact bel0) hb) (an (hbox) (an ((by rw [hg]; exact (below_size (by exact bel0)) : w.heap.size ≤ gb320)) (an ((by rw [hg]; exact (below_size (by exact bel0)) : w.heap.size ≤ gb320)) (an ((by rw [hg]; exact Nat.ne_of_lt (blk_lt (blk_nw BK307.out)) : gb307 ≠ gb320)) (an ((by rw [hg]; exact Nat.ne_of_gt (blk_lt (blk_nw BK307.out)) : gb320 ≠ gb307)) (an ((by rw [hg]; exact Nat.ne_of_lt (blk_lt (blk_nw BK308.out)) : gb308 ≠ gb320)) (an ((by rw [hg]; exact Nat.ne_of_gt (blk_lt (blk_nw BK308.out)) : gb320 ≠ gb308)) (an ((by rw [hg]; exact Nat.ne_of_lt (blk_lt (blk_nw BK309.out)) : gb309 ≠ gb320)) (an ((by rw [hg]; exact Nat.ne_of_gt (blk_lt (blk_nw BK309.out)) : gb320 ≠ gb309)) (trivial)))))))))))))); clear HO314 BK307 BK308 BK309 HB; obtain ⟨HO314, BK307, BK308, BK309, HB, BK320, GW320, GE320, NB307_320, NB320_307, NB308_320, NB320_308, NB309_320, NB320_309, -⟩ := n_; clear hb hbox hg; obtain ⟨Ao29, co29, eo29⟩ := Kd.R_slice HO314.out; subst eo29; have hnb30 := NB320_307.out; have hnc30 := NB307_320.out; have hnb31 := NB320_308.out; have hnc31 := NB308_320.out; have hnb32 := NB320_309.out; have hnc32 := NB309_320.out; obtain ⟨hcz33_0, hcz33_1, hcz33_2, hcz33_3, hcz33_4, hcz33_5⟩ := blkz6 BK320.out; have hfz33_0 := blkf BK320.out) | ((with_reducible refine gate_store (t := 90) (p := 6) rfl ?_); refine store_event (t := 90) (p := 6) (v := ?vo_w34) (w1 := ((((((w28.setCell ⟨gb320, 0, none⟩ (.slice Ao29 t312.length co29)).setCell ⟨gb320, 1, none⟩ (.int .i64 t315)).setCell ⟨gb320, 2, none⟩ (.int .i64 t316)).setCell ⟨gb320, 3, none⟩ (.int .i64 t317)).setCell ⟨gb320, 4, none⟩ (.int .i64 t318)).setCell ⟨gb320, 5, none⟩ (.int .i64 t319))) ?hg ?ho ?hn ?hr ?_; (case ho => rfl); (case hg => rfl); (case hn => rfl); (case hr => first | (go_simp; done) | (go_simp; rfl)); intro w34 hw; have n0_ : Aside0 (Kd.R (Kd.int .i64) 3 w34 w.heap.size (fun _ => True) (.slice Ao29 t312.length co29) t312) := ⟨(by rw [hw]; exact (by exact (Kd.R_farN HO314.out BK320.out)))⟩; have n1_ : Aside0 (w34.heap[gb307]? = some (.cells #[.slice A0_0 l0_0.length c0_0, .int .i64 a0_1, .int .i64 a0_2, .int .i64 a0_3, .int .i64 a0_4, .int .i64 a0_5] 90 (0, 0))) := ⟨(by rw [hw]; exact (by exact blk_kb BK307.out NB307_320.out))⟩; have n2_ : Aside0 (w34.heap[gb308]? = some (.cells #[.int .i64 a1_0, .slice A1_1 l1_1.length c1_1] 41 (0, 0))) := ⟨(by rw [hw]; exact (by exact blk_kb BK308.out NB308_320.out))⟩; have n3_ : Aside0 (w34.heap[gb309]? = some (.cells #[.slice none 0 0, .int .i64 0, .int .i64 0, .int .i64 0, .int .i64 0, .int .i64 0] 90 (0, 0))) := ⟨(by rw [hw]; exact (by exact blk_kb BK309.out NB309_320.out))⟩; have n4_ : Aside0 (w34.heap[gb320]? = some (.cells #[.slice Ao29 t312.length co29, .int .i64 t315, .int .i64 t316, .int .i64 t317, .int .i64 t318, .int .i64 t319] 90 (0, 0))) := ⟨(by rw [hw]; exact (by (with_reducible repeat (first | refine blk_drewN ?_ _ | refine blk_drew ?_ | refine blk_alloc ?_ _)); exact blk_fill6 BK320.out))⟩; have n5_ : Aside0 (Below w.heap.size w w34) := ⟨(by rw [hw]; exact (by exact bel0))⟩; clear hw; clear HO314; clear BK307; clear BK308; clear BK309; clear BK320; clear HB; have HO314 := n0_; have BK307 := n1_; have BK308 := n2_; have BK309 := n3_; have BK320 := n4_; have HB := n5_; clear n0_ n1_ n2_ n3_ n4_ n5_; have hnb35 := NB308_309.out; have hnc35 := NB309_308.out; obtain ⟨hcz36_0, hcz36_1⟩ := blkz2 BK308.out; have hfz36_0 := blkf BK308.out) | ((with_reducible refine gate_callee (f := 126) rfl ?_); refine goesL_ (some 20) rfl rfl Try.func126 (by kernel_rfl) rfl #[.pointer (some ⟨gb320, 0, none⟩), .agg #[.int .i64 a1_0, .slice A1_1 l1_1.length c1_1]] rfl (by (try simp only [List.map_toArray, List.map_cons, List.map_nil]); first | done | rfl | (simp only [List.length_drop, List.length_take]; rfl)) ?_; (with_reducible refine (impl_Prober_next.calls kj2 gb320 (fun k_ => some k_ = (.slice Ao29 t312.length co29 : Value).ownBlock) (.slice Ao29 t312.length co29) t312 t315 t316 t317 t318 t319 a1_0 _ _ l1_1 t321 t322 t325 t326 t327 t328 t329 w _ ?side1 ?side2 ?side3 ?side4 ?side5 ?side6 A23.out).mono ?_); (case side1 => exact bel0); (case side2 => exact blk_nw BK320.out); (case side3 => exact GE320.out); (case side4 => exact Kd.R_tight rfl HO314.out); (case side5 => exact Kd.C_kept_came k82_heap HR1_1.out (by exact bel0) (fun k_ hs_ => Or.elim hs_ (fun hs_ => (fun e_ => Kd.R_base HO314.out k_ e_.symm) hs_) (fun e_ => (by rw [e_]; exact GE320.out)))); (case side6 => exact HC1_1.out); rintro e w37 ⟨rfl, v323, ho0, hi, hb, hkp⟩; refine ⟨_, rfl, ?_⟩; have n_ := an (blk_kept (by exact blk_nw BK307.out) hkp (fun hs_ => Or.elim hs_ (fun hs_ => (fun e_ => (Kd.R_ne HO314.out BK307.out (by decide)) e_) hs_) (fun e_ => NB307_320.out e_))) (an (blk_kept (by exact blk_nw BK308.out) hkp (fun hs_ => Or.elim hs_ (fun hs_ => (fun e_ => (Kd.R_ne HO314.out BK308.out (by decide)) e_) hs_) (fun e_ => NB308_320.out e_))) (an (blk_kept (by exact blk_nw BK309.out) hkp (fun hs_ => Or.elim hs_ (fun hs_ => (fun e_ => (Kd.R_ne HO314.out BK309.out (by decide)) e_) hs_) (fun e_ => NB309_320.out e_))) (an (hi) (an (Kd.R_mono (ok' := fun k_ => True) ho0 (fun k_ hk_ => trivial)) (an (hb) (trivial)))))); clear BK307 BK308 BK309 BK320 HB HO314; obtain ⟨BK307, BK308, BK309, BK320, HO324, HB, -⟩ := n_; (try clear hb); (try clear hkp); (try clear ho0); obtain ⟨hcz38_0, hcz38_1, hcz38_2, hcz38_3, hcz38_4, hcz38_5⟩ := blkz6 BK320.out; have hfz38_0 := blkf BK320.out; obtain ⟨Ao39, co39, eo39⟩ := Kd.R_slice HO324.out; subst eo39; obtain ⟨hcz40_0, hcz40_1, hcz40_2, hcz40_3, hcz40_4, hcz40_5⟩ := blkz6 BK309.out; have hfz40_0 := blkf BK309.out))
        refine bodyPost_ret (results_ct rfl _ _ gb309 90 #[.slice Ao39 t322.length co39, .int .i64 t325, .int .i64 t326, .int .i64 t327, .int .i64 t328, .int .i64 t329] (0, 0) _ rfl (by (with_reducible repeat (first | refine blk_drewN ?_ _ | refine blk_drew ?_ | refine blk_alloc ?_ _)); exact blk_fill6 BK309.out) Try.underlying90 rfl (by kernel_rfl)) rfl ?_
        exact ⟨_, by first | rfl | (simp [errW_none, errW_some] <;> rfl) | (simp [*, errW_none, errW_some] <;> rfl), by exact (Kd.R_farN HO324.out BK309.out), by exact bel0⟩

end Go.Proofs.Ytigoajblljolcaa.XFnExactNextProbe
