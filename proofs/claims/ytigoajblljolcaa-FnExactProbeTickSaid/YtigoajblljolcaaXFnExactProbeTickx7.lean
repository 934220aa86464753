-- Written by this session's own program (xprint.py) over the kit's print.
import Derived.Test.YtigoajblljolcaaXFnExactProbeTickx0
import Derived.Test.YtigoajblljolcaaXFnExactProbeTickx4
import Derived.Test.YtigoajblljolcaaXFnExactProbeTickx5
import Derived.Test.YtigoajblljolcaaXFnExactProbeTickx6
namespace Go.Proofs.Ytigoajblljolcaa.XFnExactProbeTick
open Go.RowKit Go.Proofs.YtigoajblljolcaaW.PrintWords Go.Proofs.YtigoajblljolcaaW.PrintLast Go.Proofs.YtigoajblljolcaaW.PrintMore
attribute [local go_sem] max2_int min2_int max_two min_two max_three min_three max_four min_four   -- for this text's walks alone
set_option linter.unusedVariables false
set_option linter.unusedSimpArgs false


/-! ### spec_l11next: function 125 -/
mutual
def spec_l11next.l0 : Nat → List Int → Int → List Int → Int → Int → Int → Int → Int → Option (Int × List Int × Int × Int × Int × Int × Int)
  | 0, _, _, _, _, _, _, _, _ => none
  | k + 1, x5, x6, x1000, x1001, x1002, x1003, x1004, x1005 => if x6 < 2 then (spec_l11next.l1 k x5 x6 x1000 x1001 x1002 x1003 x1004 x1005) else (some ((-1), x1000, x1001, x1002, x1003, x1004, x1005))
def spec_l11next.l1 : Nat → List Int → Int → List Int → Int → Int → Int → Int → Int → Option (Int × List Int × Int × Int × Int × Int × Int)
  | 0, _, _, _, _, _, _, _, _ => none
  | k + 1, x5, x6, x1000, x1001, x1002, x1003, x1004, x1005 => if x1001 < (x1000.length : Int) then (if 0 ≤ x1001 then ((spec_l11has.f k x5 (rd x1000 x1001)).bind fun t217 => (if t217 = true then (some (rd x1000 x1001, x1000, wrap64 (x1001 + 1), x1002, x1003, x1004, x1005)) else (spec_l11next.l1 k x5 x6 x1000 (wrap64 (x1001 + 1)) x1002 x1003 x1004 x1005))) else (none)) else ((spec_l11shuffle.f k x5 x1002).bind fun bt218 => (spec_l11next.l0 k x5 (wrap64 (x6 + 1)) bt218.1 0 bt218.2 x1003 x1004 x1005))
end
def spec_l11next.f (k : Nat) (l0_0 : List Int) (a0_1 : Int) (a0_2 : Int) (a0_3 : Int) (a0_4 : Int) (a0_5 : Int) (a1_0 : Int) (l1_1 : List (S82)) : Option (Int × List Int × Int × Int × Int × Int × Int) := (spec_l11others.f k a1_0 l1_1).bind fun t213 => (spec_l11next.l0 k t213 0 l0_0 a0_1 a0_2 a0_3 a0_4 a0_5)
theorem spec_l11next.mono_l : ∀ k, (∀ y0 y1 y2 y3 y4 y5 y6 y7, LeO (spec_l11next.l0 k y0 y1 y2 y3 y4 y5 y6 y7) (spec_l11next.l0 (k + 1) y0 y1 y2 y3 y4 y5 y6 y7)) ∧ (∀ y0 y1 y2 y3 y4 y5 y6 y7, LeO (spec_l11next.l1 k y0 y1 y2 y3 y4 y5 y6 y7) (spec_l11next.l1 (k + 1) y0 y1 y2 y3 y4 y5 y6 y7))
  | 0 => ⟨fun _ _ _ _ _ _ _ _ r h => by simp [spec_l11next.l0] at h, fun _ _ _ _ _ _ _ _ r h => by simp [spec_l11next.l1] at h⟩
  | k + 1 => by
    obtain ⟨ih0, ih1⟩ := spec_l11next.mono_l k
    refine ⟨?_, ?_⟩
    · intro y0 y1 y2 y3 y4 y5 y6 y7
      unfold spec_l11next.l0
      repeat' first
      | (with_reducible exact ih0 _ _ _ _ _ _ _ _)
      | (with_reducible exact ih1 _ _ _ _ _ _ _ _)
      | (with_reducible exact spec_l11has.mono _ _ _)
      | (with_reducible exact spec_l11others.mono _ _ _)
      | (with_reducible exact spec_l11shuffle.mono _ _ _)
      | (with_reducible exact LeO.refl _)
      | (with_reducible exact LeO.none _)
      | (with_reducible refine LeO.ite ?_ ?_)
      | (with_reducible refine LeO.bind ?_ (fun _ => ?_))
      | exact ih0 _ _ _ _ _ _ _ _
      | exact ih1 _ _ _ _ _ _ _ _
      | exact spec_l11has.mono _ _ _
      | exact spec_l11others.mono _ _ _
      | exact spec_l11shuffle.mono _ _ _
      | exact LeO.none _
      | refine LeO.ite ?_ ?_
      | refine LeO.bind ?_ (fun _ => ?_)
    · intro y0 y1 y2 y3 y4 y5 y6 y7
      unfold spec_l11next.l1
      repeat' first
      | (with_reducible exact ih0 _ _ _ _ _ _ _ _)
      | (with_reducible exact ih1 _ _ _ _ _ _ _ _)
      | (with_reducible exact spec_l11has.mono _ _ _)
      | (with_reducible exact spec_l11others.mono _ _ _)
      | (with_reducible exact spec_l11shuffle.mono _ _ _)
      | (with_reducible exact LeO.refl _)
      | (with_reducible exact LeO.none _)
      | (with_reducible refine LeO.ite ?_ ?_)
      | (with_reducible refine LeO.bind ?_ (fun _ => ?_))
      | exact ih0 _ _ _ _ _ _ _ _
      | exact ih1 _ _ _ _ _ _ _ _
      | exact spec_l11has.mono _ _ _
      | exact spec_l11others.mono _ _ _
      | exact spec_l11shuffle.mono _ _ _
      | exact LeO.none _
      | refine LeO.ite ?_ ?_
      | refine LeO.bind ?_ (fun _ => ?_)
theorem spec_l11next.mono : ∀ a0 a1 a2 a3 a4 a5 a6 a7 k, LeO (spec_l11next.f k a0 a1 a2 a3 a4 a5 a6 a7) (spec_l11next.f (k + 1) a0 a1 a2 a3 a4 a5 a6 a7) := by
  intro a0 a1 a2 a3 a4 a5 a6 a7 k
  obtain ⟨ih0, ih1⟩ := spec_l11next.mono_l k
  unfold spec_l11next.f
  repeat' first
      | (with_reducible exact ih0 _ _ _ _ _ _ _ _)
      | (with_reducible exact ih1 _ _ _ _ _ _ _ _)
      | (with_reducible exact spec_l11has.mono _ _ _)
      | (with_reducible exact spec_l11others.mono _ _ _)
      | (with_reducible exact spec_l11shuffle.mono _ _ _)
      | (with_reducible exact LeO.refl _)
      | (with_reducible exact LeO.none _)
      | (with_reducible refine LeO.ite ?_ ?_)
      | (with_reducible refine LeO.bind ?_ (fun _ => ?_))
      | exact ih0 _ _ _ _ _ _ _ _
      | exact ih1 _ _ _ _ _ _ _ _
      | exact spec_l11has.mono _ _ _
      | exact spec_l11others.mono _ _ _
      | exact spec_l11shuffle.mono _ _ _
      | exact LeO.none _
      | refine LeO.ite ?_ ?_
      | refine LeO.bind ?_ (fun _ => ?_)
set_option maxHeartbeats 8000000 in
set_option maxRecDepth 100000 in
theorem spec_l11next.calls (k : Nat) (g : Nat) (P0_0_ : Nat → Prop) (u9000_ : Value) (l0_0 : List Int) (a0_1 : Int) (a0_2 : Int) (a0_3 : Int) (a0_4 : Int) (a0_5 : Int) (a1_0 : Int) (A1_1 : Option Addr) (c1_1 : Nat) (l1_1 : List (S82)) (r1 : Int) (r2 : List Int) (r3 : Int) (r4 : Int) (r5 : Int) (r6 : Int) (r7 : Int) (w0 w : World) (hB : Below w0.heap.size w0 w) (hbx : w.heap[g]? = some (.cells #[u9000_, .int .i64 a0_1, .int .i64 a0_2, .int .i64 a0_3, .int .i64 a0_4, .int .i64 a0_5] 90 (0, 0))) (hgx : w0.heap.size ≤ g) (ho0_0 : Kd.R (Kd.int .i64) 3 w w0.heap.size P0_0_ u9000_ l0_0) (hr1_1 : ∀ W_, Kept w W_ (fun k_ => (P0_0_ k_) ∨ k_ = g) → Kd.C k82 W_ A1_1 l1_1.length l1_1) (hc1_1 : l1_1.length ≤ c1_1) (h : spec_l11next.f k l0_0 a0_1 a0_2 a0_3 a0_4 a0_5 a1_0 l1_1 = some (r1, r2, r3, r4, r5, r6, r7)) :
    Calls Try.prog 125 #[.pointer (some ⟨g, 0, none⟩), .agg #[.int .i64 a1_0, .slice A1_1 l1_1.length c1_1]] w fun e w' => e = .returned (.int .i64 r1) ∧ ∃ v1_ : Value, Kd.R (Kd.int .i64) 3 w' w0.heap.size (fun k_ => (P0_0_ k_ ∨ w.heap.size ≤ k_)) v1_ r2 ∧ w'.heap[g]? = some (.cells #[v1_, .int .i64 r3, .int .i64 r4, .int .i64 r5, .int .i64 r6, .int .i64 r7] 90 (0, 0)) ∧ Below w0.heap.size w0 w' ∧ Kept w w' (fun k_ => (P0_0_ k_) ∨ k_ = g) := by
  have hu41 := Try.underlying41
  have BK0 := Aside0.mk hbx
  have GE0 := Aside0.mk hgx
  clear hbx hgx
  have HO0_0 := Aside0.mk (show Kd.R (Kd.int .i64) 3 w w0.heap.size (fun k_ => (P0_0_ k_ ∨ w.heap.size ≤ k_)) u9000_ l0_0 from Kd.R_mono ho0_0 (fun k_ hk => (.inl hk)))
  have HR1_1 := Aside0.mk hr1_1
  have HC1_1 := Aside0.mk hc1_1
  clear hr1_1 hc1_1
  have HK := Aside0.mk (Kept.refl w (fun k_ => (P0_0_ k_) ∨ k_ = g))
  have HW0 := Aside0.mk hB.size
  have HB := Aside0.mk hB
  clear hB
  have H : ((spec_l11others.f k a1_0 l1_1).bind fun t213 => (spec_l11next.l0 k t213 0 l0_0 a0_1 a0_2 a0_3 a0_4 a0_5)) = some (r1, r2, r3, r4, r5, r6, r7) := h
  clear h
  replace H := Option.bind_eq_some_iff.mp H
  obtain ⟨t213, A30, H⟩ := H
  have A3 := Aside0.mk A30
  clear A30
  have H' := Aside0.mk H
  clear H
  go_enter Try.func125, Try.ntmps125
  go_wp2_with (first | ((with_reducible refine gate_dst (N := 3) rfl ?_); refine box_event ?hg (N := 3) ?hd (cs := #[.int .i64 a1_0, .slice A1_1 l1_1.length c1_1]) (t := 41) ?hr ?_; (case hd => rfl); (case hg => rfl); (case hr => first | (go_simp; done) | (go_simp; rfl)); intro gb212 hg w4 hbox hb; have n_ := an (Kd.R_below (by exact Kd.R_nw HO0_0.out) hb) (an (blk_below (blk_nw BK0.out) hb) (an (Kept.below (S := (fun k_ => (P0_0_ k_) ∨ k_ = g)) (by exact kpt) hb) (an (below_step (by exact bel0) hb) (an (hbox) (an ((by rw [hg]; exact (by first | exact HK.out.1 | exact (show Kept w _ (fun k_ => (P0_0_ k_) ∨ k_ = g) from by exact kpt).1) : w.heap.size ≤ gb212)) (an ((by rw [hg]; exact (below_size (by exact bel0)) : w0.heap.size ≤ gb212)) (an ((by rw [hg]; exact Nat.ne_of_lt (blk_lt (blk_nw BK0.out)) : g ≠ gb212)) (an ((by rw [hg]; exact Nat.ne_of_gt (blk_lt (blk_nw BK0.out)) : gb212 ≠ g)) (trivial))))))))); clear HO0_0 BK0 HK HB; obtain ⟨HO0_0, BK0, HK, HB, BK212, GW212, GE212, NB0_212, NB212_0, -⟩ := n_; clear hb hbox hg; have hnb5 := NB212_0.out; have hnc5 := NB0_212.out; obtain ⟨hcz6_0, hcz6_1⟩ := blkz2 BK212.out; have hfz6_0 := blkf BK212.out) | (go_at_call 156; (with_reducible refine (spec_l11others.calls k a1_0 _ _ l1_1 t213 _ ?side1 ?side2 A3.out).mono ?_); (case side1 => exact Kd.C_kept_now HR1_1.out (by exact kpt)); (case side2 => exact HC1_1.out); rintro e w7 ⟨v214, rfl, ho0, hb⟩; have n_ := an (Kd.R_elder' (by exact Kd.R_nw HO0_0.out) (Kd.R_base ho0) hb) (an (Kd.R_lower (Kd.R_new' (Kd.R_newM (M := fun k_ => (P0_0_ k_ ∨ w.heap.size ≤ k_)) ho0 (by first | exact HK.out.1 | exact (show Kept w _ (fun k_ => (P0_0_ k_) ∨ k_ = g) from by exact kpt).1) (fun k_ h_ => .inr h_)) (Kd.R_lt (by exact Kd.R_nw HO0_0.out))) (below_size (by exact bel0))) (an (blk_below (blk_nw BK0.out) hb) (an (blk_below (blk_nw BK212.out) hb) (an (Kept.below (S := (fun k_ => (P0_0_ k_) ∨ k_ = g)) (by exact kpt) hb) (an (below_step (by exact bel0) hb) (trivial)))))); clear HO0_0 BK0 BK212 HK HB; obtain ⟨HO0_0, HO215, BK0, BK212, HK, HB, -⟩ := n_; (try clear hb); (try clear hb2); (try clear hk); (try clear hi); (try clear ho0)))
  repeat (go_quiet (fail); try go_wp2_with (first | ((with_reducible refine gate_dst (N := 3) rfl ?_); refine box_event ?hg (N := 3) ?hd (cs := #[.int .i64 a1_0, .slice A1_1 l1_1.length c1_1]) (t := 41) ?hr ?_; (case hd => rfl); (case hg => rfl); (case hr => first | (go_simp; done) | (go_simp; rfl)); intro gb212 hg w4 hbox hb; have n_ := an (Kd.R_below (by exact Kd.R_nw HO0_0.out) hb) (an (blk_below (blk_nw BK0.out) hb) (an (Kept.below (S := (fun k_ => (P0_0_ k_) ∨ k_ = g)) (by exact kpt) hb) (an (below_step (by exact bel0) hb) (an (hbox) (an ((by rw [hg]; exact (by first | exact HK.out.1 | exact (show Kept w _ (fun k_ => (P0_0_ k_) ∨ k_ = g) from by exact kpt).1) : w.heap.size ≤ gb212)) (an ((by rw [hg]; exact (below_size (by exact bel0)) : w0.heap.size ≤ gb212)) (an ((by rw [hg]; exact Nat.ne_of_lt (blk_lt (blk_nw BK0.out)) : g ≠ gb212)) (an ((by rw [hg]; exact Nat.ne_of_gt (blk_lt (blk_nw BK0.out)) : gb212 ≠ g)) (trivial))))))))); clear HO0_0 BK0 HK HB; obtain ⟨HO0_0, BK0, HK, HB, BK212, GW212, GE212, NB0_212, NB212_0, -⟩ := n_; clear hb hbox hg; have hnb5 := NB212_0.out; have hnc5 := NB0_212.out; obtain ⟨hcz6_0, hcz6_1⟩ := blkz2 BK212.out; have hfz6_0 := blkf BK212.out) | (go_at_call 156; (with_reducible refine (spec_l11others.calls k a1_0 _ _ l1_1 t213 _ ?side1 ?side2 A3.out).mono ?_); (case side1 => exact Kd.C_kept_now HR1_1.out (by exact kpt)); (case side2 => exact HC1_1.out); rintro e w7 ⟨v214, rfl, ho0, hb⟩; have n_ := an (Kd.R_elder' (by exact Kd.R_nw HO0_0.out) (Kd.R_base ho0) hb) (an (Kd.R_lower (Kd.R_new' (Kd.R_newM (M := fun k_ => (P0_0_ k_ ∨ w.heap.size ≤ k_)) ho0 (by first | exact HK.out.1 | exact (show Kept w _ (fun k_ => (P0_0_ k_) ∨ k_ = g) from by exact kpt).1) (fun k_ h_ => .inr h_)) (Kd.R_lt (by exact Kd.R_nw HO0_0.out))) (below_size (by exact bel0))) (an (blk_below (blk_nw BK0.out) hb) (an (blk_below (blk_nw BK212.out) hb) (an (Kept.below (S := (fun k_ => (P0_0_ k_) ∨ k_ = g)) (by exact kpt) hb) (an (below_step (by exact bel0) hb) (trivial)))))); clear HO0_0 BK0 BK212 HK HB; obtain ⟨HO0_0, HO215, BK0, BK212, HK, HB, -⟩ := n_; (try clear hb); (try clear hb2); (try clear hk); (try clear hi); (try clear ho0))))
  go_loopg [6] k (fun kq v6 w' => ∃ (x6_1 : Int) (x1000_1 : List Int) (x1001_1 : Int) (x1002_1 : Int) (u1000 : Value), v6 = .int .i64 x6_1 ∧ Aside0 (spec_l11next.l0 kq t213 x6_1 x1000_1 x1001_1 x1002_1 a0_3 a0_4 a0_5 = some (r1, r2, r3, r4, r5, r6, r7)) ∧ Aside0 (kq ≤ k) ∧ Aside0 (Kd.R (Kd.int .i64) 3 w' w0.heap.size (fun k_ => (P0_0_ k_ ∨ w.heap.size ≤ k_) ∧ some k_ ≠ (u1000 : Value).ownBlock) v214 t213) ∧ Aside0 (Kd.R (Kd.int .i64) 3 w' w0.heap.size (fun k_ => (P0_0_ k_ ∨ w.heap.size ≤ k_) ∧ some k_ ≠ (v214 : Value).ownBlock) u1000 x1000_1) ∧ Aside0 (w'.heap[g]? = some (.cells #[u1000, .int .i64 x1001_1, .int .i64 x1002_1, .int .i64 a0_3, .int .i64 a0_4, .int .i64 a0_5] 90 (0, 0))) ∧ Aside0 (w'.heap[gb212]? = some (.cells #[.int .i64 a1_0, (.slice A1_1 l1_1.length c1_1)] 41 (0, 0))) ∧ Aside0 (Kept w w' (fun k_ => (P0_0_ k_) ∨ k_ = g)) ∧ Aside0 (Below w0.heap.size w0 w'))
  case atStart => exact ⟨(0), (l0_0), (a0_1), (a0_2), (u9000_), (by first | rfl | (simp; done) | (simp [*]; done)), H', ⟨Nat.le_refl _⟩, ⟨by exact Kd.R_nw (Kd.R_mono HO215.out (fun _ hk => ⟨hk.1.1, hk.2⟩))⟩, ⟨by exact Kd.R_nw HO0_0.out⟩, ⟨by exact blk_nw BK0.out⟩, ⟨by exact blk_nw BK212.out⟩, ⟨by exact kpt⟩, ⟨by exact bel0⟩⟩
  case round =>
    clear H'
    try clear c1
    try clear p2
    try clear c5
    try clear hcz6_0
    try clear hcz6_1
    try clear hfz6_0
    try clear hfz6_1
    obtain ⟨x6_1, x1000_1, x1001_1, x1002_1, u1000, rfl, HA, HK1, HO_5, HO_1000, BK0, BK212, HK, HB⟩ := hrel
    cases gk with
    | zero => exact absurd HA.out (by simp [spec_l11next.l0])
    | succ k1 =>
      have H := HA.out
      clear HA
      simp only [spec_l11next.l0] at H
      by_cases c8 : x6_1 < 2
      · rw [if_pos c8] at H
        have c8b0 : decide (x6_1 < 2) = true := decide_eq_true c8
        clear c8
        (try simp only [c8b0])
        have H' := Aside0.mk H
        clear H
        go_wp2
        repeat (go_quiet (fail); try go_wp2)
        go_loopg [] k1 (fun kq w' => ∃ (x1001_2 : Int), Aside0 (spec_l11next.l1 kq t213 x6_1 x1000_1 x1001_2 x1002_1 a0_3 a0_4 a0_5 = some (r1, r2, r3, r4, r5, r6, r7)) ∧ Aside0 (kq ≤ k1) ∧ Aside0 (Kd.R (Kd.int .i64) 3 w' w0.heap.size (fun k_ => (P0_0_ k_ ∨ w.heap.size ≤ k_) ∧ some k_ ≠ (u1000 : Value).ownBlock) v214 t213) ∧ Aside0 (Kd.R (Kd.int .i64) 3 w' w0.heap.size (fun k_ => (P0_0_ k_ ∨ w.heap.size ≤ k_) ∧ some k_ ≠ (v214 : Value).ownBlock) u1000 x1000_1) ∧ Aside0 (w'.heap[g]? = some (.cells #[u1000, .int .i64 x1001_2, .int .i64 x1002_1, .int .i64 a0_3, .int .i64 a0_4, .int .i64 a0_5] 90 (0, 0))) ∧ Aside0 (w'.heap[gb212]? = some (.cells #[.int .i64 a1_0, (.slice A1_1 l1_1.length c1_1)] 41 (0, 0))) ∧ Aside0 (Kept w w' (fun k_ => (P0_0_ k_) ∨ k_ = g)) ∧ Aside0 (Below w0.heap.size w0 w'))
        case atStart => exact ⟨(x1001_1), H', ⟨Nat.le_refl _⟩, ⟨by exact Kd.R_nw HO_5.out⟩, ⟨by exact Kd.R_nw HO_1000.out⟩, ⟨by exact blk_nw BK0.out⟩, ⟨by exact blk_nw BK212.out⟩, ⟨by exact kpt⟩, ⟨by exact bel0⟩⟩
        case round =>
          clear H'
          try clear c1
          try clear p2
          try clear c5
          try clear c8
          try clear c8b0
          try clear hcz6_0
          try clear hcz6_1
          try clear hfz6_0
          try clear hfz6_1
          try clear p2
          obtain ⟨x1001_2, HA, HK2, HO_5, HO_1000, BK0, BK212, HK, HB⟩ := hrel
          cases gk with
          | zero => exact absurd HA.out (by simp [spec_l11next.l1])
          | succ k2 =>
            have H := HA.out
            clear HA
            simp only [spec_l11next.l1] at H
            by_cases c9 : x1001_2 < (x1000_1.length : Int)
            · rw [if_pos c9] at H
              have c9b0 : decide (x1001_2 < (x1000_1.length : Int)) = true := decide_eq_true c9
              clear c9
              (try simp only [c9b0])
              by_cases c10 : 0 ≤ x1001_2
              · rw [if_pos c10] at H
                have c10b0 : decide (0 ≤ x1001_2) = true := decide_eq_true c10
                clear c10
                (try simp only [c10b0])
                replace H := Option.bind_eq_some_iff.mp H
                obtain ⟨t217, A110, H⟩ := H
                have A11 := Aside0.mk A110
                clear A110
                by_cases c12 : t217 = true
                · subst c12
                  rw [if_pos rfl] at H
                  simp only [Option.some.injEq, Prod.mk.injEq] at H
                  obtain ⟨rfl, rfl, rfl, rfl, rfl, rfl, rfl⟩ := H
                  have hnb13 := NB0_212.out
                  have hnc13 := NB212_0.out
                  obtain ⟨hcz14_0, hcz14_1, hcz14_2, hcz14_3, hcz14_4, hcz14_5⟩ := blkz6 BK0.out
                  have hfz14_0 := blkf BK0.out
                  obtain ⟨Ao15, co15, eo15⟩ := Kd.R_slice HO_1000.out
                  subst eo15
                  have p216 : 0 ≤ (x1001_2 : Int) := of_decide_eq_true (by first | (with_reducible assumption) | assumption)
                  have q216 : x1001_2 < (x1000_1.length : Int) := of_decide_eq_true (by first | (with_reducible assumption) | assumption)
                  obtain ⟨ad216, e216, hx216_0⟩ := Kd.at_int (Kd.R_reads' HO_1000.out).2.2 x1001_2 p216 q216
                  cases e216
                  replace p216 := eq_true p216
                  replace q216 := eq_true q216
                  obtain ⟨Ao16, co16, eo16⟩ := Kd.R_slice HO_5.out
                  subst eo16
                  go_wp2_with (first | (go_at_call 162; (with_reducible refine (spec_l11has.calls k2 _ _ t213 (rd x1000_1 x1001_2) true _ ?side1 ?side2 A11.out).mono ?_); (case side1 => refine (Kd.R_reads' (e := 3) (base := w0.heap.size) (ok := fun k_ => ((P0_0_ k_ ∨ w.heap.size ≤ k_) ∧ some k_ ≠ (.slice (some ad216) x1000_1.length co15 : Value).ownBlock)) (n := t213.length) (c := co16) ?_).2.2; exact (by exact (Kd.R_farN HO_5.out BK0.out))); (case side2 => exact (Kd.R_reads' HO_5.out).2.1); rintro e w' ⟨rfl, ⟨nd, rfl⟩⟩; (try first | exact ⟨rfl, _, World.drewN_drewN _ _ _⟩ | exact ⟨rfl, _, Eq.trans (World.drewN_drewN _ _ _) (congrArg (World.drewN _) (Nat.add_assoc _ _ _))⟩)))
                  repeat (go_quiet (fail); try go_wp2_with (first | (go_at_call 162; (with_reducible refine (spec_l11has.calls k2 _ _ t213 (rd x1000_1 x1001_2) true _ ?side1 ?side2 A11.out).mono ?_); (case side1 => refine (Kd.R_reads' (e := 3) (base := w0.heap.size) (ok := fun k_ => ((P0_0_ k_ ∨ w.heap.size ≤ k_) ∧ some k_ ≠ (.slice (some ad216) x1000_1.length co15 : Value).ownBlock)) (n := t213.length) (c := co16) ?_).2.2; exact (by exact (Kd.R_farN HO_5.out BK0.out))); (case side2 => exact (Kd.R_reads' HO_5.out).2.1); rintro e w' ⟨rfl, ⟨nd, rfl⟩⟩; (try first | exact ⟨rfl, _, World.drewN_drewN _ _ _⟩ | exact ⟨rfl, _, Eq.trans (World.drewN_drewN _ _ _) (congrArg (World.drewN _) (Nat.add_assoc _ _ _))⟩))))
                  go_ret
                  exact ⟨by first | rfl | (simp [errW_none, errW_some] <;> rfl) | (simp [*, errW_none, errW_some] <;> rfl), (.slice (some ad216) x1000_1.length co15), by exact Kd.R_mono (Kd.R_farN HO_1000.out BK0.out) (fun _ hk => hk.1), by (with_reducible repeat (first | refine blk_drewN ?_ _ | refine blk_drew ?_ | refine blk_alloc ?_ _)); refine blk_put (cs := #[.slice (some ad216) x1000_1.length co15, .int .i64 x1001_2, .int .i64 x1002_1, .int .i64 a0_3, .int .i64 a0_4, .int .i64 a0_5]) ?_ 1 _ rfl; (with_reducible repeat (first | refine blk_drewN ?_ _ | refine blk_drew ?_ | refine blk_alloc ?_ _)); exact BK0.out, by exact bel0, by exact kpt⟩
                · replace c12 := Bool.eq_false_iff.mpr c12
                  subst c12
                  rw [if_neg (show ¬ (false = true) by decide)] at H
                  have H' := Aside0.mk H
                  clear H
                  have hnb17 := NB0_212.out
                  have hnc17 := NB212_0.out
                  obtain ⟨hcz18_0, hcz18_1, hcz18_2, hcz18_3, hcz18_4, hcz18_5⟩ := blkz6 BK0.out
                  have hfz18_0 := blkf BK0.out
                  obtain ⟨Ao19, co19, eo19⟩ := Kd.R_slice HO_1000.out
                  subst eo19
                  have p216 : 0 ≤ (x1001_2 : Int) := of_decide_eq_true (by first | (with_reducible assumption) | assumption)
                  have q216 : x1001_2 < (x1000_1.length : Int) := of_decide_eq_true (by first | (with_reducible assumption) | assumption)
                  obtain ⟨ad216, e216, hx216_0⟩ := Kd.at_int (Kd.R_reads' HO_1000.out).2.2 x1001_2 p216 q216
                  cases e216
                  replace p216 := eq_true p216
                  replace q216 := eq_true q216
                  obtain ⟨Ao20, co20, eo20⟩ := Kd.R_slice HO_5.out
                  subst eo20
                  go_wp2_with (first | (go_at_call 162; (with_reducible refine (spec_l11has.calls k2 _ _ t213 (rd x1000_1 x1001_2) false _ ?side1 ?side2 A11.out).mono ?_); (case side1 => refine (Kd.R_reads' (e := 3) (base := w0.heap.size) (ok := fun k_ => ((P0_0_ k_ ∨ w.heap.size ≤ k_) ∧ some k_ ≠ (.slice (some ad216) x1000_1.length co19 : Value).ownBlock)) (n := t213.length) (c := co20) ?_).2.2; exact (by exact (Kd.R_farN HO_5.out BK0.out))); (case side2 => exact (Kd.R_reads' HO_5.out).2.1); rintro e w' ⟨rfl, ⟨nd, rfl⟩⟩; (try first | exact ⟨rfl, _, World.drewN_drewN _ _ _⟩ | exact ⟨rfl, _, Eq.trans (World.drewN_drewN _ _ _) (congrArg (World.drewN _) (Nat.add_assoc _ _ _))⟩)))
                  repeat (go_quiet (fail); try go_wp2_with (first | (go_at_call 162; (with_reducible refine (spec_l11has.calls k2 _ _ t213 (rd x1000_1 x1001_2) false _ ?side1 ?side2 A11.out).mono ?_); (case side1 => refine (Kd.R_reads' (e := 3) (base := w0.heap.size) (ok := fun k_ => ((P0_0_ k_ ∨ w.heap.size ≤ k_) ∧ some k_ ≠ (.slice (some ad216) x1000_1.length co19 : Value).ownBlock)) (n := t213.length) (c := co20) ?_).2.2; exact (by exact (Kd.R_farN HO_5.out BK0.out))); (case side2 => exact (Kd.R_reads' HO_5.out).2.1); rintro e w' ⟨rfl, ⟨nd, rfl⟩⟩; (try first | exact ⟨rfl, _, World.drewN_drewN _ _ _⟩ | exact ⟨rfl, _, Eq.trans (World.drewN_drewN _ _ _) (congrArg (World.drewN _) (Nat.add_assoc _ _ _))⟩))))
                  go_roundg k2
                  case measure => have := HK1.out; have := HK2.out; omega
                  case rel => exact ⟨(wrap64 (x1001_2 + 1)), H', ⟨by have := HK1.out; have := HK2.out; omega⟩, ⟨by exact (Kd.R_farN HO_5.out BK0.out)⟩, ⟨by exact (Kd.R_farN HO_1000.out BK0.out)⟩, ⟨by (with_reducible repeat (first | refine blk_drewN ?_ _ | refine blk_drew ?_ | refine blk_alloc ?_ _)); refine blk_put (cs := #[.slice (some ad216) x1000_1.length co19, .int .i64 x1001_2, .int .i64 x1002_1, .int .i64 a0_3, .int .i64 a0_4, .int .i64 a0_5]) ?_ 1 _ rfl; (with_reducible repeat (first | refine blk_drewN ?_ _ | refine blk_drew ?_ | refine blk_alloc ?_ _)); exact BK0.out⟩, ⟨by exact blk_kb BK212.out NB212_0.out⟩, ⟨by exact kpt⟩, ⟨by exact bel0⟩⟩
              · rw [if_neg c10] at H
                exact absurd H (by simp)
            · rw [if_neg c9] at H
              have c9b0 : decide (x1001_2 < (x1000_1.length : Int)) = false := decide_eq_false c9
              clear c9
              (try simp only [c9b0])
              replace H := Option.bind_eq_some_iff.mp H
              obtain ⟨⟨t218, t219⟩, A210, H⟩ := H
              replace H : (spec_l11next.l0 k2 t213 (wrap64 (x6_1 + 1)) t218 0 t219 a0_3 a0_4 a0_5) = some (r1, r2, r3, r4, r5, r6, r7) := H
              have A21 := Aside0.mk A210
              clear A210
              have H' := Aside0.mk H
              clear H
              have hnb22 := NB0_212.out
              have hnc22 := NB212_0.out
              obtain ⟨hcz23_0, hcz23_1, hcz23_2, hcz23_3, hcz23_4, hcz23_5⟩ := blkz6 BK0.out
              have hfz23_0 := blkf BK0.out
              obtain ⟨Ao24, co24, eo24⟩ := Kd.R_slice HO_1000.out
              subst eo24
              obtain ⟨Ao25, co25, eo25⟩ := Kd.R_slice HO_5.out
              subst eo25
              go_wp2_with (first | (go_at_call 157; (with_reducible refine (spec_l11shuffle.calls k2 _ _ t213 x1002_1 t218 t219 _ ?side1 ?side2 A21.out).mono ?_); (case side1 => repeat (first | exact (Kd.R_reads' HO_5.out).2.2 | (with_reducible refine Kd.C_alloc ?_ _) | (with_reducible refine Kd.C_drewN ?_ _) | (with_reducible refine Kd.C_drew ?_))); (case side2 => exact (Kd.R_reads' HO_5.out).2.1); rintro e w26 ⟨v220, rfl, ho0, hb⟩; have n_ := an (Kd.R_elder' (by exact Kd.R_nw HO_5.out) (Kd.R_base ho0) hb) (an (Kd.R_elder' (by exact Kd.R_nw HO_1000.out) (Kd.R_base ho0) hb) (an (Kd.R_lower (Kd.R_new' (Kd.R_new' (Kd.R_newM (M := fun k_ => (P0_0_ k_ ∨ w.heap.size ≤ k_)) ho0 (by first | exact HK.out.1 | exact (show Kept w _ (fun k_ => (P0_0_ k_) ∨ k_ = g) from by exact kpt).1) (fun k_ h_ => .inr h_)) (Kd.R_lt (by exact Kd.R_nw HO_5.out))) (Kd.R_lt (by exact Kd.R_nw HO_1000.out))) (below_size (by exact bel0))) (an (blk_below (blk_nw BK0.out) hb) (an (blk_below (blk_nw BK212.out) hb) (an (Kept.below (S := (fun k_ => (P0_0_ k_) ∨ k_ = g)) (by exact kpt) hb) (an (below_step (by exact bel0) hb) (trivial))))))); clear HO_5 HO_1000 BK0 BK212 HK HB; obtain ⟨HO_5, HO_1000, HO221, BK0, BK212, HK, HB, -⟩ := n_; (try clear hb); (try clear hb2); (try clear hk); (try clear hi); (try clear ho0); obtain ⟨Ao27, co27, eo27⟩ := Kd.R_slice HO221.out; subst eo27; obtain ⟨hcz28_0, hcz28_1, hcz28_2, hcz28_3, hcz28_4, hcz28_5⟩ := blkz6 BK0.out; have hfz28_0 := blkf BK0.out))
              repeat (go_quiet (fail); try go_wp2_with (first | (go_at_call 157; (with_reducible refine (spec_l11shuffle.calls k2 _ _ t213 x1002_1 t218 t219 _ ?side1 ?side2 A21.out).mono ?_); (case side1 => repeat (first | exact (Kd.R_reads' HO_5.out).2.2 | (with_reducible refine Kd.C_alloc ?_ _) | (with_reducible refine Kd.C_drewN ?_ _) | (with_reducible refine Kd.C_drew ?_))); (case side2 => exact (Kd.R_reads' HO_5.out).2.1); rintro e w26 ⟨v220, rfl, ho0, hb⟩; have n_ := an (Kd.R_elder' (by exact Kd.R_nw HO_5.out) (Kd.R_base ho0) hb) (an (Kd.R_elder' (by exact Kd.R_nw HO_1000.out) (Kd.R_base ho0) hb) (an (Kd.R_lower (Kd.R_new' (Kd.R_new' (Kd.R_newM (M := fun k_ => (P0_0_ k_ ∨ w.heap.size ≤ k_)) ho0 (by first | exact HK.out.1 | exact (show Kept w _ (fun k_ => (P0_0_ k_) ∨ k_ = g) from by exact kpt).1) (fun k_ h_ => .inr h_)) (Kd.R_lt (by exact Kd.R_nw HO_5.out))) (Kd.R_lt (by exact Kd.R_nw HO_1000.out))) (below_size (by exact bel0))) (an (blk_below (blk_nw BK0.out) hb) (an (blk_below (blk_nw BK212.out) hb) (an (Kept.below (S := (fun k_ => (P0_0_ k_) ∨ k_ = g)) (by exact kpt) hb) (an (below_step (by exact bel0) hb) (trivial))))))); clear HO_5 HO_1000 BK0 BK212 HK HB; obtain ⟨HO_5, HO_1000, HO221, BK0, BK212, HK, HB, -⟩ := n_; (try clear hb); (try clear hb2); (try clear hk); (try clear hi); (try clear ho0); obtain ⟨Ao27, co27, eo27⟩ := Kd.R_slice HO221.out; subst eo27; obtain ⟨hcz28_0, hcz28_1, hcz28_2, hcz28_3, hcz28_4, hcz28_5⟩ := blkz6 BK0.out; have hfz28_0 := blkf BK0.out)))
              go_roundg k2
              case measure => have := HK1.out; have := HK2.out; omega
              case rel => exact ⟨(wrap64 (x6_1 + 1)), (t218), (0), (t219), (.slice Ao27 t218.length co27), (by first | rfl | (simp; done) | (simp [*]; done)), H', ⟨by have := HK1.out; have := HK2.out; omega⟩, ⟨by exact Kd.R_mono (Kd.R_farN HO_5.out BK0.out) (fun _ hk => ⟨hk.1.1, hk.2⟩)⟩, ⟨by exact Kd.R_mono (Kd.R_farN HO221.out BK0.out) (fun _ hk => ⟨hk.1.1.1, hk.1.2⟩)⟩, ⟨by (with_reducible repeat (first | refine blk_drewN ?_ _ | refine blk_drew ?_ | refine blk_alloc ?_ _)); refine blk_put (cs := #[.slice Ao27 t218.length co27, .int .i64 x1001_2, .int .i64 t219, .int .i64 a0_3, .int .i64 a0_4, .int .i64 a0_5]) ?_ 1 _ rfl; (with_reducible repeat (first | refine blk_drewN ?_ _ | refine blk_drew ?_ | refine blk_alloc ?_ _)); refine blk_put (cs := #[.slice Ao27 t218.length co27, .int .i64 x1001_2, .int .i64 x1002_1, .int .i64 a0_3, .int .i64 a0_4, .int .i64 a0_5]) ?_ 2 _ rfl; (with_reducible repeat (first | refine blk_drewN ?_ _ | refine blk_drew ?_ | refine blk_alloc ?_ _)); refine blk_put (cs := #[.slice Ao24 x1000_1.length co24, .int .i64 x1001_2, .int .i64 x1002_1, .int .i64 a0_3, .int .i64 a0_4, .int .i64 a0_5]) ?_ 0 _ rfl; (with_reducible repeat (first | refine blk_drewN ?_ _ | refine blk_drew ?_ | refine blk_alloc ?_ _)); exact BK0.out⟩, ⟨by exact blk_kb BK212.out NB212_0.out⟩, ⟨by exact kpt⟩, ⟨by exact bel0⟩⟩
      · rw [if_neg c8] at H
        have c8b0 : decide (x6_1 < 2) = false := decide_eq_false c8
        clear c8
        (try simp only [c8b0])
        simp only [Option.some.injEq, Prod.mk.injEq] at H
        obtain ⟨rfl, rfl, rfl, rfl, rfl, rfl, rfl⟩ := H
        go_wp2
        repeat (go_quiet (fail); try go_wp2)
        go_ret
        exact ⟨by first | rfl | (simp [errW_none, errW_some] <;> rfl) | (simp [*, errW_none, errW_some] <;> rfl), (u1000), by exact Kd.R_nw (Kd.R_mono HO_1000.out (fun _ hk => hk.1)), by exact blk_nw BK0.out, by exact bel0, by exact kpt⟩

/-! ### spec_l11tick: function 127 -/
def spec_l11tick.f (k : Nat) (l0_0 : List Int) (a0_1 : Int) (a0_2 : Int) (a0_3 : Int) (a0_4 : Int) (a0_5 : Int) (a1_0 : Int) (l1_1 : List (S82)) : Option (Int × Int × List Int × Int × Int × Int × Int × Int) := if a0_3 = 0 then ((spec_l11next.f k l0_0 a0_1 a0_2 a0_3 a0_4 a0_5 a1_0 l1_1).bind fun bt223 => (if bt223.1 < 0 then (some (0, 0, bt223.2.1, bt223.2.2.1, bt223.2.2.2.1, bt223.2.2.2.2.1, bt223.2.2.2.2.2.1, bt223.2.2.2.2.2.2)) else (some (1, bt223.1, bt223.2.1, bt223.2.2.1, bt223.2.2.2.1, 1, bt223.1, 0)))) else (if a0_3 = 1 then (if (wrap64 (a0_5 + 1)) < 2 then (some (0, 0, l0_0, a0_1, a0_2, a0_3, a0_4, wrap64 (a0_5 + 1))) else (some (2, a0_4, l0_0, a0_1, a0_2, 2, a0_4, 0))) else (if (wrap64 (a0_5 + 1)) < 4 then (some (0, 0, l0_0, a0_1, a0_2, a0_3, a0_4, wrap64 (a0_5 + 1))) else (some (3, a0_4, l0_0, a0_1, a0_2, 0, 0, 0))))
theorem spec_l11tick.mono : ∀ a0 a1 a2 a3 a4 a5 a6 a7 k, LeO (spec_l11tick.f k a0 a1 a2 a3 a4 a5 a6 a7) (spec_l11tick.f (k + 1) a0 a1 a2 a3 a4 a5 a6 a7) := by
  intro a0 a1 a2 a3 a4 a5 a6 a7 k
  unfold spec_l11tick.f
  repeat' first
      | (with_reducible exact spec_l11next.mono _ _ _ _ _ _ _ _ _)
      | (with_reducible exact LeO.refl _)
      | (with_reducible exact LeO.none _)
      | (with_reducible refine LeO.ite ?_ ?_)
      | (with_reducible refine LeO.bind ?_ (fun _ => ?_))
      | exact spec_l11next.mono _ _ _ _ _ _ _ _ _
      | exact LeO.none _
      | refine LeO.ite ?_ ?_
      | refine LeO.bind ?_ (fun _ => ?_)
set_option maxHeartbeats 8000000 in
set_option maxRecDepth 100000 in
theorem spec_l11tick.calls (k : Nat) (g : Nat) (P0_0_ : Nat → Prop) (u9000_ : Value) (l0_0 : List Int) (a0_1 : Int) (a0_2 : Int) (a0_3 : Int) (a0_4 : Int) (a0_5 : Int) (a1_0 : Int) (A1_1 : Option Addr) (c1_1 : Nat) (l1_1 : List (S82)) (r1 : Int) (r2 : Int) (r3 : List Int) (r4 : Int) (r5 : Int) (r6 : Int) (r7 : Int) (r8 : Int) (w0 w : World) (hB : Below w0.heap.size w0 w) (hbx : w.heap[g]? = some (.cells #[u9000_, .int .i64 a0_1, .int .i64 a0_2, .int .i64 a0_3, .int .i64 a0_4, .int .i64 a0_5] 90 (0, 0))) (hgx : w0.heap.size ≤ g) (ho0_0 : Kd.R (Kd.int .i64) 3 w w0.heap.size P0_0_ u9000_ l0_0) (hr1_1 : ∀ W_, Kept w W_ (fun k_ => (P0_0_ k_) ∨ k_ = g) → Kd.C k82 W_ A1_1 l1_1.length l1_1) (hc1_1 : l1_1.length ≤ c1_1) (h : spec_l11tick.f k l0_0 a0_1 a0_2 a0_3 a0_4 a0_5 a1_0 l1_1 = some (r1, r2, r3, r4, r5, r6, r7, r8)) :
    Calls Try.prog 127 #[.pointer (some ⟨g, 0, none⟩), .agg #[.int .i64 a1_0, .slice A1_1 l1_1.length c1_1]] w fun e w' => e = .returned (.tuple #[.int .i64 r1, .int .i64 r2]) ∧ ∃ v2_ : Value, Kd.R (Kd.int .i64) 3 w' w0.heap.size (fun k_ => (P0_0_ k_ ∨ w.heap.size ≤ k_)) v2_ r3 ∧ w'.heap[g]? = some (.cells #[v2_, .int .i64 r4, .int .i64 r5, .int .i64 r6, .int .i64 r7, .int .i64 r8] 90 (0, 0)) ∧ Below w0.heap.size w0 w' ∧ Kept w w' (fun k_ => (P0_0_ k_) ∨ k_ = g) := by
  have hu41 := Try.underlying41
  have BK0 := Aside0.mk hbx
  have GE0 := Aside0.mk hgx
  clear hbx hgx
  have HO0_0 := Aside0.mk (show Kd.R (Kd.int .i64) 3 w w0.heap.size (fun k_ => (P0_0_ k_ ∨ w.heap.size ≤ k_)) u9000_ l0_0 from Kd.R_mono ho0_0 (fun k_ hk => (.inl hk)))
  have HR1_1 := Aside0.mk hr1_1
  have HC1_1 := Aside0.mk hc1_1
  clear hr1_1 hc1_1
  have HK := Aside0.mk (Kept.refl w (fun k_ => (P0_0_ k_) ∨ k_ = g))
  have HW0 := Aside0.mk hB.size
  have HB := Aside0.mk hB
  clear hB
  have H : (if a0_3 = 0 then ((spec_l11next.f k l0_0 a0_1 a0_2 a0_3 a0_4 a0_5 a1_0 l1_1).bind fun bt223 => (if bt223.1 < 0 then (some (0, 0, bt223.2.1, bt223.2.2.1, bt223.2.2.2.1, bt223.2.2.2.2.1, bt223.2.2.2.2.2.1, bt223.2.2.2.2.2.2)) else (some (1, bt223.1, bt223.2.1, bt223.2.2.1, bt223.2.2.2.1, 1, bt223.1, 0)))) else (if a0_3 = 1 then (if (wrap64 (a0_5 + 1)) < 2 then (some (0, 0, l0_0, a0_1, a0_2, a0_3, a0_4, wrap64 (a0_5 + 1))) else (some (2, a0_4, l0_0, a0_1, a0_2, 2, a0_4, 0))) else (if (wrap64 (a0_5 + 1)) < 4 then (some (0, 0, l0_0, a0_1, a0_2, a0_3, a0_4, wrap64 (a0_5 + 1))) else (some (3, a0_4, l0_0, a0_1, a0_2, 0, 0, 0))))) = some (r1, r2, r3, r4, r5, r6, r7, r8) := h
  clear h
  by_cases c3 : a0_3 = 0
  · rw [if_pos c3] at H
    have c3b0 : (a0_3 == 0) = true := beq_iff_eq.mpr c3
    have c3b1 : (a0_3 != 0) = false := bne_eq_false_iff_eq.mpr c3
    clear c3
    replace H := Option.bind_eq_some_iff.mp H
    obtain ⟨⟨t223, t224, t227, t228, t229, t230, t231⟩, A40, H⟩ := H
    replace H : (if t223 < 0 then (some (0, 0, t224, t227, t228, t229, t230, t231)) else (some (1, t223, t224, t227, t228, 1, t223, 0))) = some (r1, r2, r3, r4, r5, r6, r7, r8) := H
    have A4 := Aside0.mk A40
    clear A40
    by_cases c5 : t223 < 0
    · rw [if_pos c5] at H
      have c5b0 : decide (t223 < 0) = true := decide_eq_true c5
      clear c5
      (try simp only [c5b0])
      simp only [Option.some.injEq, Prod.mk.injEq] at H
      obtain ⟨rfl, rfl, rfl, rfl, rfl, rfl, rfl, rfl⟩ := H
      go_enter Try.func127, Try.ntmps127
      go_wp2_with (first | ((with_reducible refine gate_dst (N := 3) rfl ?_); refine box_event ?hg (N := 3) ?hd (cs := #[.int .i64 a1_0, .slice A1_1 l1_1.length c1_1]) (t := 41) ?hr ?_; (case hd => rfl); (case hg => rfl); (case hr => first | (go_simp; done) | (go_simp; rfl)); intro gb222 hg w6 hbox hb; have n_ := an (Kd.R_below (by exact Kd.R_nw HO0_0.out) hb) (an (blk_below (blk_nw BK0.out) hb) (an (Kept.below (S := (fun k_ => (P0_0_ k_) ∨ k_ = g)) (by exact kpt) hb) (an (below_step (by exact bel0) hb) (an (hbox) (an ((by rw [hg]; exact (by first | exact HK.out.1 | exact (show Kept w _ (fun k_ => (P0_0_ k_) ∨ k_ = g) from by exact kpt).1) : w.heap.size ≤ gb222)) (an ((by rw [hg]; exact (below_size (by exact bel0)) : w0.heap.size ≤ gb222)) (an ((by rw [hg]; exact Nat.ne_of_lt (blk_lt (blk_nw BK0.out)) : g ≠ gb222)) (an ((by rw [hg]; exact Nat.ne_of_gt (blk_lt (blk_nw BK0.out)) : gb222 ≠ g)) (trivial))))))))); clear HO0_0 BK0 HK HB; obtain ⟨HO0_0, BK0, HK, HB, BK222, GW222, GE222, NB0_222, NB222_0, -⟩ := n_; clear hb hbox hg; have hnb7 := NB0_222.out; have hnc7 := NB222_0.out; obtain ⟨hcz8_0, hcz8_1, hcz8_2, hcz8_3, hcz8_4, hcz8_5⟩ := blkz6 BK0.out; have hfz8_0 := blkf BK0.out; obtain ⟨hcz9_0, hcz9_1⟩ := blkz2 BK222.out; have hfz9_0 := blkf BK222.out; obtain ⟨Ao10, co10, eo10⟩ := Kd.R_slice HO0_0.out; subst eo10) | (go_at_call 125; (with_reducible refine (spec_l11next.calls k g (fun k_ => some k_ = (.slice Ao10 l0_0.length co10 : Value).ownBlock) (.slice Ao10 l0_0.length co10) l0_0 a0_1 a0_2 a0_3 a0_4 a0_5 a1_0 _ _ l1_1 t223 t224 t227 t228 t229 t230 t231 w0 _ ?side1 ?side2 ?side3 ?side4 ?side5 ?side6 A4.out).mono ?_); (case side1 => exact bel0); (case side2 => exact blk_nw BK0.out); (case side3 => exact GE0.out); (case side4 => exact Kd.R_tight rfl HO0_0.out); (case side5 => exact Kd.C_kept_call HR1_1.out (by exact kpt) (fun k_ hs_ => Or.elim hs_ (fun hs_ => (fun e_ => Or.imp_left Or.inl ((HO0_0.out.1 k_ e_.symm))) hs_) (fun e_ => .inl (.inr e_)))); (case side6 => exact HC1_1.out); rintro e w11 ⟨rfl, v225, ho0, hi, hb, hkp⟩; have n_ := an (hi) (an (blk_kept (by exact blk_nw BK222.out) hkp (fun hs_ => Or.elim hs_ (fun hs_ => (fun e_ => (Kd.R_ne HO0_0.out BK222.out (by decide)) e_) hs_) (fun e_ => NB222_0.out e_))) (an (Kd.R_mono (ok' := fun k_ => (P0_0_ k_ ∨ w.heap.size ≤ k_)) ho0 (fun k_ hk_ => Or.elim hk_ (fun hs_ => (HO0_0.out.1 k_ (hs_).symm)) (fun hn_ => (.inr (Nat.le_trans (by first | exact HK.out.1 | exact (show Kept w _ (fun k_ => (P0_0_ k_) ∨ k_ = g) from by exact kpt).1) hn_))))) (an (Kept.then_ (S := (fun k_ => (P0_0_ k_) ∨ k_ = g)) (by exact kpt) hkp (fun k_ hs_ => Or.elim hs_ (fun hs_ => (fun e_ => Or.imp_left Or.inl ((HO0_0.out.1 k_ e_.symm))) hs_) (fun e_ => .inl (.inr e_)))) (an (hb) (trivial))))); clear BK0 BK222 HK HB HO0_0; obtain ⟨BK0, BK222, HO226, HK, HB, -⟩ := n_; (try clear hb); (try clear hkp); (try clear ho0)))
      repeat (go_quiet (fail); try go_wp2_with (first | ((with_reducible refine gate_dst (N := 3) rfl ?_); refine box_event ?hg (N := 3) ?hd (cs := #[.int .i64 a1_0, .slice A1_1 l1_1.length c1_1]) (t := 41) ?hr ?_; (case hd => rfl); (case hg => rfl); (case hr => first | (go_simp; done) | (go_simp; rfl)); intro gb222 hg w6 hbox hb; have n_ := an (Kd.R_below (by exact Kd.R_nw HO0_0.out) hb) (an (blk_below (blk_nw BK0.out) hb) (an (Kept.below (S := (fun k_ => (P0_0_ k_) ∨ k_ = g)) (by exact kpt) hb) (an (below_step (by exact bel0) hb) (an (hbox) (an ((by rw [hg]; exact (by first | exact HK.out.1 | exact (show Kept w _ (fun k_ => (P0_0_ k_) ∨ k_ = g) from by exact kpt).1) : w.heap.size ≤ gb222)) (an ((by rw [hg]; exact (below_size (by exact bel0)) : w0.heap.size ≤ gb222)) (an ((by rw [hg]; exact Nat.ne_of_lt (blk_lt (blk_nw BK0.out)) : g ≠ gb222)) (an ((by rw [hg]; exact Nat.ne_of_gt (blk_lt (blk_nw BK0.out)) : gb222 ≠ g)) (trivial))))))))); clear HO0_0 BK0 HK HB; obtain ⟨HO0_0, BK0, HK, HB, BK222, GW222, GE222, NB0_222, NB222_0, -⟩ := n_; clear hb hbox hg; have hnb7 := NB0_222.out; have hnc7 := NB222_0.out; obtain ⟨hcz8_0, hcz8_1, hcz8_2, hcz8_3, hcz8_4, hcz8_5⟩ := blkz6 BK0.out; have hfz8_0 := blkf BK0.out; obtain ⟨hcz9_0, hcz9_1⟩ := blkz2 BK222.out; have hfz9_0 := blkf BK222.out; obtain ⟨Ao10, co10, eo10⟩ := Kd.R_slice HO0_0.out; subst eo10) | (go_at_call 125; (with_reducible refine (spec_l11next.calls k g (fun k_ => some k_ = (.slice Ao10 l0_0.length co10 : Value).ownBlock) (.slice Ao10 l0_0.length co10) l0_0 a0_1 a0_2 a0_3 a0_4 a0_5 a1_0 _ _ l1_1 t223 t224 t227 t228 t229 t230 t231 w0 _ ?side1 ?side2 ?side3 ?side4 ?side5 ?side6 A4.out).mono ?_); (case side1 => exact bel0); (case side2 => exact blk_nw BK0.out); (case side3 => exact GE0.out); (case side4 => exact Kd.R_tight rfl HO0_0.out); (case side5 => exact Kd.C_kept_call HR1_1.out (by exact kpt) (fun k_ hs_ => Or.elim hs_ (fun hs_ => (fun e_ => Or.imp_left Or.inl ((HO0_0.out.1 k_ e_.symm))) hs_) (fun e_ => .inl (.inr e_)))); (case side6 => exact HC1_1.out); rintro e w11 ⟨rfl, v225, ho0, hi, hb, hkp⟩; have n_ := an (hi) (an (blk_kept (by exact blk_nw BK222.out) hkp (fun hs_ => Or.elim hs_ (fun hs_ => (fun e_ => (Kd.R_ne HO0_0.out BK222.out (by decide)) e_) hs_) (fun e_ => NB222_0.out e_))) (an (Kd.R_mono (ok' := fun k_ => (P0_0_ k_ ∨ w.heap.size ≤ k_)) ho0 (fun k_ hk_ => Or.elim hk_ (fun hs_ => (HO0_0.out.1 k_ (hs_).symm)) (fun hn_ => (.inr (Nat.le_trans (by first | exact HK.out.1 | exact (show Kept w _ (fun k_ => (P0_0_ k_) ∨ k_ = g) from by exact kpt).1) hn_))))) (an (Kept.then_ (S := (fun k_ => (P0_0_ k_) ∨ k_ = g)) (by exact kpt) hkp (fun k_ hs_ => Or.elim hs_ (fun hs_ => (fun e_ => Or.imp_left Or.inl ((HO0_0.out.1 k_ e_.symm))) hs_) (fun e_ => .inl (.inr e_)))) (an (hb) (trivial))))); clear BK0 BK222 HK HB HO0_0; obtain ⟨BK0, BK222, HO226, HK, HB, -⟩ := n_; (try clear hb); (try clear hkp); (try clear ho0))))
      go_ret2
      exact ⟨by first | rfl | (simp [errW_none, errW_some] <;> rfl) | (simp [*, errW_none, errW_some] <;> rfl), (v225), by exact Kd.R_nw HO226.out, by exact blk_nw BK0.out, by exact bel0, by exact kpt⟩
    · rw [if_neg c5] at H
      have c5b0 : decide (t223 < 0) = false := decide_eq_false c5
      clear c5
      (try simp only [c5b0])
      simp only [Option.some.injEq, Prod.mk.injEq] at H
      obtain ⟨rfl, rfl, rfl, rfl, rfl, rfl, rfl, rfl⟩ := H
      go_enter Try.func127, Try.ntmps127
      go_wp2_with (first | ((with_reducible refine gate_dst (N := 3) rfl ?_); refine box_event ?hg (N := 3) ?hd (cs := #[.int .i64 a1_0, .slice A1_1 l1_1.length c1_1]) (t := 41) ?hr ?_; (case hd => rfl); (case hg => rfl); (case hr => first | (go_simp; done) | (go_simp; rfl)); intro gb222 hg w12 hbox hb; have n_ := an (Kd.R_below (by exact Kd.R_nw HO0_0.out) hb) (an (blk_below (blk_nw BK0.out) hb) (an (Kept.below (S := (fun k_ => (P0_0_ k_) ∨ k_ = g)) (by exact kpt) hb) (an (below_step (by exact bel0) hb) (an (hbox) (an ((by rw [hg]; exact (by first | exact HK.out.1 | exact (show Kept w _ (fun k_ => (P0_0_ k_) ∨ k_ = g) from by exact kpt).1) : w.heap.size ≤ gb222)) (an ((by rw [hg]; exact (below_size (by exact bel0)) : w0.heap.size ≤ gb222)) (an ((by rw [hg]; exact Nat.ne_of_lt (blk_lt (blk_nw BK0.out)) : g ≠ gb222)) (an ((by rw [hg]; exact Nat.ne_of_gt (blk_lt (blk_nw BK0.out)) : gb222 ≠ g)) (trivial))))))))); clear HO0_0 BK0 HK HB; obtain ⟨HO0_0, BK0, HK, HB, BK222, GW222, GE222, NB0_222, NB222_0, -⟩ := n_; clear hb hbox hg; have hnb13 := NB0_222.out; have hnc13 := NB222_0.out; obtain ⟨hcz14_0, hcz14_1, hcz14_2, hcz14_3, hcz14_4, hcz14_5⟩ := blkz6 BK0.out; have hfz14_0 := blkf BK0.out; obtain ⟨hcz15_0, hcz15_1⟩ := blkz2 BK222.out; have hfz15_0 := blkf BK222.out; obtain ⟨Ao16, co16, eo16⟩ := Kd.R_slice HO0_0.out; subst eo16) | (go_at_call 125; (with_reducible refine (spec_l11next.calls k g (fun k_ => some k_ = (.slice Ao16 l0_0.length co16 : Value).ownBlock) (.slice Ao16 l0_0.length co16) l0_0 a0_1 a0_2 a0_3 a0_4 a0_5 a1_0 _ _ l1_1 t223 t224 t227 t228 t229 t230 t231 w0 _ ?side1 ?side2 ?side3 ?side4 ?side5 ?side6 A4.out).mono ?_); (case side1 => exact bel0); (case side2 => exact blk_nw BK0.out); (case side3 => exact GE0.out); (case side4 => exact Kd.R_tight rfl HO0_0.out); (case side5 => exact Kd.C_kept_call HR1_1.out (by exact kpt) (fun k_ hs_ => Or.elim hs_ (fun hs_ => (fun e_ => Or.imp_left Or.inl ((HO0_0.out.1 k_ e_.symm))) hs_) (fun e_ => .inl (.inr e_)))); (case side6 => exact HC1_1.out); rintro e w17 ⟨rfl, v225, ho0, hi, hb, hkp⟩; have n_ := an (hi) (an (blk_kept (by exact blk_nw BK222.out) hkp (fun hs_ => Or.elim hs_ (fun hs_ => (fun e_ => (Kd.R_ne HO0_0.out BK222.out (by decide)) e_) hs_) (fun e_ => NB222_0.out e_))) (an (Kd.R_mono (ok' := fun k_ => (P0_0_ k_ ∨ w.heap.size ≤ k_)) ho0 (fun k_ hk_ => Or.elim hk_ (fun hs_ => (HO0_0.out.1 k_ (hs_).symm)) (fun hn_ => (.inr (Nat.le_trans (by first | exact HK.out.1 | exact (show Kept w _ (fun k_ => (P0_0_ k_) ∨ k_ = g) from by exact kpt).1) hn_))))) (an (Kept.then_ (S := (fun k_ => (P0_0_ k_) ∨ k_ = g)) (by exact kpt) hkp (fun k_ hs_ => Or.elim hs_ (fun hs_ => (fun e_ => Or.imp_left Or.inl ((HO0_0.out.1 k_ e_.symm))) hs_) (fun e_ => .inl (.inr e_)))) (an (hb) (trivial))))); clear BK0 BK222 HK HB HO0_0; obtain ⟨BK0, BK222, HO226, HK, HB, -⟩ := n_; (try clear hb); (try clear hkp); (try clear ho0); obtain ⟨hcz18_0, hcz18_1, hcz18_2, hcz18_3, hcz18_4, hcz18_5⟩ := blkz6 BK0.out; have hfz18_0 := blkf BK0.out) | ((with_reducible refine gate_store (t := 3) (p := 21) rfl ?_); (try (rw [drewN_self w17]; generalize hq_ : World.drewN w17 _ = w17; have n0_ := Aside0.mk (Kd.R_at hq_ HO226.out); have n1_ := Aside0.mk (blk_at hq_ BK0.out); have n2_ := Aside0.mk (blk_at hq_ BK222.out); have n3_ := Aside0.mk (kept_at hq_ HK.out); have n4_ := Aside0.mk (below_at hq_ HB.out); clear hq_ HO226 BK0 BK222 HK HB; have HO226 := n0_; have BK0 := n1_; have BK222 := n2_; have HK := n3_; have HB := n4_; clear n0_ n1_ n2_ n3_ n4_)); refine store_event (t := 3) (p := 21) (v := ?vo_w19) (w1 := (w17.setCell ⟨g, 3, none⟩ (.int .i64 1))) ?hg ?ho ?hn ?hr ?_; (case ho => rfl); (case hg => rfl); (case hn => rfl); (case hr => first | (go_simp; done) | (go_simp; rfl)); intro w19 hw; have n0_ : Aside0 (Kd.R (Kd.int .i64) 3 w19 w0.heap.size (fun k_ => (P0_0_ k_ ∨ w.heap.size ≤ k_)) v225 t224) := ⟨(by rw [hw]; exact (by exact (Kd.R_farN HO226.out BK0.out)))⟩; have n1_ : Aside0 (w19.heap[g]? = some (.cells #[v225, .int .i64 t227, .int .i64 t228, .int .i64 1, .int .i64 t230, .int .i64 t231] 90 (0, 0))) := ⟨(by rw [hw]; exact (by (with_reducible repeat (first | refine blk_drewN ?_ _ | refine blk_drew ?_ | refine blk_alloc ?_ _)); refine blk_put (cs := #[v225, .int .i64 t227, .int .i64 t228, .int .i64 t229, .int .i64 t230, .int .i64 t231]) ?_ 3 _ rfl; (with_reducible repeat (first | refine blk_drewN ?_ _ | refine blk_drew ?_ | refine blk_alloc ?_ _)); exact BK0.out))⟩; have n2_ : Aside0 (w19.heap[gb222]? = some (.cells #[.int .i64 a1_0, .slice A1_1 l1_1.length c1_1] 41 (0, 0))) := ⟨(by rw [hw]; exact (by exact blk_kb BK222.out NB222_0.out))⟩; have n3_ : Aside0 (Kept w w19 (fun k_ => (P0_0_ k_) ∨ k_ = g)) := ⟨(by rw [hw]; exact (by exact kpt))⟩; have n4_ : Aside0 (Below w0.heap.size w0 w19) := ⟨(by rw [hw]; exact (by exact bel0))⟩; clear hw; clear HO226; clear BK0; clear BK222; clear HK; clear HB; have HO226 := n0_; have BK0 := n1_; have BK222 := n2_; have HK := n3_; have HB := n4_; clear n0_ n1_ n2_ n3_ n4_; obtain ⟨hcz20_0, hcz20_1, hcz20_2, hcz20_3, hcz20_4, hcz20_5⟩ := blkz6 BK0.out; have hfz20_0 := blkf BK0.out) | ((with_reducible refine gate_store (t := 3) (p := 25) rfl ?_); (try (rw [drewN_self w19]; generalize hq_ : World.drewN w19 _ = w19; have n0_ := Aside0.mk (Kd.R_at hq_ HO226.out); have n1_ := Aside0.mk (blk_at hq_ BK0.out); have n2_ := Aside0.mk (blk_at hq_ BK222.out); have n3_ := Aside0.mk (kept_at hq_ HK.out); have n4_ := Aside0.mk (below_at hq_ HB.out); clear hq_ HO226 BK0 BK222 HK HB; have HO226 := n0_; have BK0 := n1_; have BK222 := n2_; have HK := n3_; have HB := n4_; clear n0_ n1_ n2_ n3_ n4_)); refine store_event (t := 3) (p := 25) (v := ?vo_w21) (w1 := (w19.setCell ⟨g, 4, none⟩ (.int .i64 t223))) ?hg ?ho ?hn ?hr ?_; (case ho => rfl); (case hg => rfl); (case hn => rfl); (case hr => first | (go_simp; done) | (go_simp; rfl)); intro w21 hw; have n0_ : Aside0 (Kd.R (Kd.int .i64) 3 w21 w0.heap.size (fun k_ => (P0_0_ k_ ∨ w.heap.size ≤ k_)) v225 t224) := ⟨(by rw [hw]; exact (by exact (Kd.R_farN HO226.out BK0.out)))⟩; have n1_ : Aside0 (w21.heap[g]? = some (.cells #[v225, .int .i64 t227, .int .i64 t228, .int .i64 1, .int .i64 t223, .int .i64 t231] 90 (0, 0))) := ⟨(by rw [hw]; exact (by (with_reducible repeat (first | refine blk_drewN ?_ _ | refine blk_drew ?_ | refine blk_alloc ?_ _)); refine blk_put (cs := #[v225, .int .i64 t227, .int .i64 t228, .int .i64 1, .int .i64 t230, .int .i64 t231]) ?_ 4 _ rfl; (with_reducible repeat (first | refine blk_drewN ?_ _ | refine blk_drew ?_ | refine blk_alloc ?_ _)); exact BK0.out))⟩; have n2_ : Aside0 (w21.heap[gb222]? = some (.cells #[.int .i64 a1_0, .slice A1_1 l1_1.length c1_1] 41 (0, 0))) := ⟨(by rw [hw]; exact (by exact blk_kb BK222.out NB222_0.out))⟩; have n3_ : Aside0 (Kept w w21 (fun k_ => (P0_0_ k_) ∨ k_ = g)) := ⟨(by rw [hw]; exact (by exact kpt))⟩; have n4_ : Aside0 (Below w0.heap.size w0 w21) := ⟨(by rw [hw]; exact (by exact bel0))⟩; clear hw; clear HO226; clear BK0; clear BK222; clear HK; clear HB; have HO226 := n0_; have BK0 := n1_; have BK222 := n2_; have HK := n3_; have HB := n4_; clear n0_ n1_ n2_ n3_ n4_; obtain ⟨hcz22_0, hcz22_1, hcz22_2, hcz22_3, hcz22_4, hcz22_5⟩ := blkz6 BK0.out; have hfz22_0 := blkf BK0.out) | ((with_reducible refine gate_store (t := 3) (p := 28) rfl ?_); (try (rw [drewN_self w21]; generalize hq_ : World.drewN w21 _ = w21; have n0_ := Aside0.mk (Kd.R_at hq_ HO226.out); have n1_ := Aside0.mk (blk_at hq_ BK0.out); have n2_ := Aside0.mk (blk_at hq_ BK222.out); have n3_ := Aside0.mk (kept_at hq_ HK.out); have n4_ := Aside0.mk (below_at hq_ HB.out); clear hq_ HO226 BK0 BK222 HK HB; have HO226 := n0_; have BK0 := n1_; have BK222 := n2_; have HK := n3_; have HB := n4_; clear n0_ n1_ n2_ n3_ n4_)); refine store_event (t := 3) (p := 28) (v := ?vo_w23) (w1 := (w21.setCell ⟨g, 5, none⟩ (.int .i64 0))) ?hg ?ho ?hn ?hr ?_; (case ho => rfl); (case hg => rfl); (case hn => rfl); (case hr => first | (go_simp; done) | (go_simp; rfl)); intro w23 hw; have n0_ : Aside0 (Kd.R (Kd.int .i64) 3 w23 w0.heap.size (fun k_ => (P0_0_ k_ ∨ w.heap.size ≤ k_)) v225 t224) := ⟨(by rw [hw]; exact (by exact (Kd.R_farN HO226.out BK0.out)))⟩; have n1_ : Aside0 (w23.heap[g]? = some (.cells #[v225, .int .i64 t227, .int .i64 t228, .int .i64 1, .int .i64 t223, .int .i64 0] 90 (0, 0))) := ⟨(by rw [hw]; exact (by (with_reducible repeat (first | refine blk_drewN ?_ _ | refine blk_drew ?_ | refine blk_alloc ?_ _)); refine blk_put (cs := #[v225, .int .i64 t227, .int .i64 t228, .int .i64 1, .int .i64 t223, .int .i64 t231]) ?_ 5 _ rfl; (with_reducible repeat (first | refine blk_drewN ?_ _ | refine blk_drew ?_ | refine blk_alloc ?_ _)); exact BK0.out))⟩; have n2_ : Aside0 (w23.heap[gb222]? = some (.cells #[.int .i64 a1_0, .slice A1_1 l1_1.length c1_1] 41 (0, 0))) := ⟨(by rw [hw]; exact (by exact blk_kb BK222.out NB222_0.out))⟩; have n3_ : Aside0 (Kept w w23 (fun k_ => (P0_0_ k_) ∨ k_ = g)) := ⟨(by rw [hw]; exact (by exact kpt))⟩; have n4_ : Aside0 (Below w0.heap.size w0 w23) := ⟨(by rw [hw]; exact (by exact bel0))⟩; clear hw; clear HO226; clear BK0; clear BK222; clear HK; clear HB; have HO226 := n0_; have BK0 := n1_; have BK222 := n2_; have HK := n3_; have HB := n4_; clear n0_ n1_ n2_ n3_ n4_))
      repeat (go_quiet (fail); try go_wp2_with (first | ((with_reducible refine gate_dst (N := 3) rfl ?_); refine box_event ?hg (N := 3) ?hd (cs := #[.int .i64 a1_0, .slice A1_1 l1_1.length c1_1]) (t := 41) ?hr ?_; (case hd => rfl); (case hg => rfl); (case hr => first | (go_simp; done) | (go_simp; rfl)); intro gb222 hg w12 hbox hb; have n_ := an (Kd.R_below (by exact Kd.R_nw HO0_0.out) hb) (an (blk_below (blk_nw BK0.out) hb) (an (Kept.below (S := (fun k_ => (P0_0_ k_) ∨ k_ = g)) (by exact kpt) hb) (an (below_step (by exact bel0) hb) (an (hbox) (an ((by rw [hg]; exact (by first | exact HK.out.1 | exact (show Kept w _ (fun k_ => (P0_0_ k_) ∨ k_ = g) from by exact kpt).1) : w.heap.size ≤ gb222)) (an ((by rw [hg]; exact (below_size (by exact bel0)) : w0.heap.size ≤ gb222)) (an ((by rw [hg]; exact Nat.ne_of_lt (blk_lt (blk_nw BK0.out)) : g ≠ gb222)) (an ((by rw [hg]; exact Nat.ne_of_gt (blk_lt (blk_nw BK0.out)) : gb222 ≠ g)) (trivial))))))))); clear HO0_0 BK0 HK HB; obtain ⟨HO0_0, BK0, HK, HB, BK222, GW222, GE222, NB0_222, NB222_0, -⟩ := n_; clear hb hbox hg; have hnb13 := NB0_222.out; have hnc13 := NB222_0.out; obtain ⟨hcz14_0, hcz14_1, hcz14_2, hcz14_3, hcz14_4, hcz14_5⟩ := blkz6 BK0.out; have hfz14_0 := blkf BK0.out; obtain ⟨hcz15_0, hcz15_1⟩ := blkz2 BK222.out; have hfz15_0 := blkf BK222.out; obtain ⟨Ao16, co16, eo16⟩ := Kd.R_slice HO0_0.out; subst eo16) | (go_at_call 125; (with_reducible refine (spec_l11next.calls k g (fun k_ => some k_ = (.slice Ao16 l0_0.length co16 : Value).ownBlock) (.slice Ao16 l0_0.length co16) l0_0 a0_1 a0_2 a0_3 a0_4 a0_5 a1_0 _ _ l1_1 t223 t224 t227 t228 t229 t230 t231 w0 _ ?side1 ?side2 ?side3 ?side4 ?side5 ?side6 A4.out).mono ?_); (case side1 => exact bel0); (case side2 => exact blk_nw BK0.out); (case side3 => exact GE0.out); (case side4 => exact Kd.R_tight rfl HO0_0.out); (case side5 => exact Kd.C_kept_call HR1_1.out (by exact kpt) (fun k_ hs_ => Or.elim hs_ (fun hs_ => (fun e_ => Or.imp_left Or.inl ((HO0_0.out.1 k_ e_.symm))) hs_) (fun e_ => .inl (.inr e_)))); (case side6 => exact HC1_1.out); rintro e w17 ⟨rfl, v225, ho0, hi, hb, hkp⟩; have n_ := an (hi) (an (blk_kept (by exact blk_nw BK222.out) hkp (fun hs_ => Or.elim hs_ (fun hs_ => (fun e_ => (Kd.R_ne HO0_0.out BK222.out (by decide)) e_) hs_) (fun e_ => NB222_0.out e_))) (an (Kd.R_mono (ok' := fun k_ => (P0_0_ k_ ∨ w.heap.size ≤ k_)) ho0 (fun k_ hk_ => Or.elim hk_ (fun hs_ => (HO0_0.out.1 k_ (hs_).symm)) (fun hn_ => (.inr (Nat.le_trans (by first | exact HK.out.1 | exact (show Kept w _ (fun k_ => (P0_0_ k_) ∨ k_ = g) from by exact kpt).1) hn_))))) (an (Kept.then_ (S := (fun k_ => (P0_0_ k_) ∨ k_ = g)) (by exact kpt) hkp (fun k_ hs_ => Or.elim hs_ (fun hs_ => (fun e_ => Or.imp_left Or.inl ((HO0_0.out.1 k_ e_.symm))) hs_) (fun e_ => .inl (.inr e_)))) (an (hb) (trivial))))); clear BK0 BK222 HK HB HO0_0; obtain ⟨BK0, BK222, HO226, HK, HB, -⟩ := n_; (try clear hb); (try clear hkp); (try clear ho0); obtain ⟨hcz18_0, hcz18_1, hcz18_2, hcz18_3, hcz18_4, hcz18_5⟩ := blkz6 BK0.out; have hfz18_0 := blkf BK0.out) | ((with_reducible refine gate_store (t := 3) (p := 21) rfl ?_); (try (rw [drewN_self w17]; generalize hq_ : World.drewN w17 _ = w17; have n0_ := Aside0.mk (Kd.R_at hq_ HO226.out); have n1_ := Aside0.mk (blk_at hq_ BK0.out); have n2_ := Aside0.mk (blk_at hq_ BK222.out); have n3_ := Aside0.mk (kept_at hq_ HK.out); have n4_ := Aside0.mk (below_at hq_ HB.out); clear hq_ HO226 BK0 BK222 HK HB; have HO226 := n0_; have BK0 := n1_; have BK222 := n2_; have HK := n3_; have HB := n4_; clear n0_ n1_ n2_ n3_ n4_)); refine store_event (t := 3) (p := 21) (v := ?vo_w19) (w1 := (w17.setCell ⟨g, 3, none⟩ (.int .i64 1))) ?hg ?ho ?hn ?hr ?_; (case ho => rfl); (case hg => rfl); (case hn => rfl); (case hr => first | (go_simp; done) | (go_simp; rfl)); intro w19 hw; have n0_ : Aside0 (Kd.R (Kd.int .i64) 3 w19 w0.heap.size (fun k_ => (P0_0_ k_ ∨ w.heap.size ≤ k_)) v225 t224) := ⟨(by rw [hw]; exact (by exact (Kd.R_farN HO226.out BK0.out)))⟩; have n1_ : Aside0 (w19.heap[g]? = some (.cells #[v225, .int .i64 t227, .int .i64 t228, .int .i64 1, .int .i64 t230, .int .i64 t231] 90 (0, 0))) := ⟨(by rw [hw]; exact (by (with_reducible repeat (first | refine blk_drewN ?_ _ | refine blk_drew ?_ | refine blk_alloc ?_ _)); refine blk_put (cs := #[v225, .int .i64 t227, .int .i64 t228, .int .i64 t229, .int .i64 t230, .int .i64 t231]) ?_ 3 _ rfl; (with_reducible repeat (first | refine blk_drewN ?_ _ | refine blk_drew ?_ | refine blk_alloc ?_ _)); exact BK0.out))⟩; have n2_ : Aside0 (w19.heap[gb222]? = some (.cells #[.int .i64 a1_0, .slice A1_1 l1_1.length c1_1] 41 (0, 0))) := ⟨(by rw [hw]; exact (by exact blk_kb BK222.out NB222_0.out))⟩; have n3_ : Aside0 (Kept w w19 (fun k_ => (P0_0_ k_) ∨ k_ = g)) := ⟨(by rw [hw]; exact (by exact kpt))⟩; have n4_ : Aside0 (Below w0.heap.size w0 w19) := ⟨(by rw [hw]; exact (by exact bel0))⟩; clear hw; clear HO226; clear BK0; clear BK222; clear HK; clear HB; have HO226 := n0_; have BK0 := n1_; have BK222 := n2_; have HK := n3_; have HB := n4_; clear n0_ n1_ n2_ n3_ n4_; obtain ⟨hcz20_0, hcz20_1, hcz20_2, hcz20_3, hcz20_4, hcz20_5⟩ := blkz6 BK0.out; have hfz20_0 := blkf BK0.out) | ((with_reducible refine gate_store (t := 3) (p := 25) rfl ?_); (try (rw [drewN_self w19]; generalize hq_ : World.drewN w19 _ = w19; have n0_ := Aside0.mk (Kd.R_at hq_ HO226.out); have n1_ := Aside0.mk (blk_at hq_ BK0.out); have n2_ := Aside0.mk (blk_at hq_ BK222.out); have n3_ := Aside0.mk (kept_at hq_ HK.out); have n4_ := Aside0.mk (below_at hq_ HB.out); clear hq_ HO226 BK0 BK222 HK HB; have HO226 := n0_; have BK0 := n1_; have BK222 := n2_; have HK := n3_; have HB := n4_; clear n0_ n1_ n2_ n3_ n4_)); refine store_event (t := 3) (p := 25) (v := ?vo_w21) (w1 := (w19.setCell ⟨g, 4, none⟩ (.int .i64 t223))) ?hg ?ho ?hn ?hr ?_; (case ho => rfl); (case hg => rfl); (case hn => rfl); (case hr => first | (go_simp; done) | (go_simp; rfl)); intro w21 hw; have n0_ : Aside0 (Kd.R (Kd.int .i64) 3 w21 w0.heap.size (fun k_ => (P0_0_ k_ ∨ w.heap.size ≤ k_)) v225 t224) := ⟨(by rw [hw]; exact (by exact (Kd.R_farN HO226.out BK0.out)))⟩; have n1_ : Aside0 (w21.heap[g]? = some (.cells #[v225, .int .i64 t227, .int .i64 t228, .int .i64 1, .int .i64 t223, .int .i64 t231] 90 (0, 0))) := ⟨(by rw [hw]; exact (by (with_reducible repeat (first | refine blk_drewN ?_ _ | refine blk_drew ?_ | refine blk_alloc ?_ _)); refine blk_put (cs := #[v225, .int .i64 t227, .int .i64 t228, .int .i64 1, .int .i64 t230, .int .i64 t231]) ?_ 4 _ rfl; (with_reducible repeat (first | refine blk_drewN ?_ _ | refine blk_drew ?_ | refine blk_alloc ?_ _)); exact BK0.out))⟩; have n2_ : Aside0 (w21.heap[gb222]? = some (.cells #[.int .i64 a1_0, .slice A1_1 l1_1.length c1_1] 41 (0, 0))) := ⟨(by rw [hw]; exact (by exact blk_kb BK222.out NB222_0.out))⟩; have n3_ : Aside0 (Kept w w21 (fun k_ => (P0_0_ k_) ∨ k_ = g)) := ⟨(by rw [hw]; exact (by exact kpt))⟩; have n4_ : Aside0 (Below w0.heap.size w0 w21) := ⟨(by rw [hw]; exact (by exact bel0))⟩; clear hw; clear HO226; clear BK0; clear BK222; clear HK; clear HB; have HO226 := n0_; have BK0 := n1_; have BK222 := n2_; have HK := n3_; have HB := n4_; clear n0_ n1_ n2_ n3_ n4_; obtain ⟨hcz22_0, hcz22_1, hcz22_2, hcz22_3, hcz22_4, hcz22_5⟩ := blkz6 BK0.out; have hfz22_0 := blkf BK0.out) | ((with_reducible refine gate_store (t := 3) (p := 28) rfl ?_); (try (rw [drewN_self w21]; generalize hq_ : World.drewN w21 _ = w21; have n0_ := Aside0.mk (Kd.R_at hq_ HO226.out); have n1_ := Aside0.mk (blk_at hq_ BK0.out); have n2_ := Aside0.mk (blk_at hq_ BK222.out); have n3_ := Aside0.mk (kept_at hq_ HK.out); have n4_ := Aside0.mk (below_at hq_ HB.out); clear hq_ HO226 BK0 BK222 HK HB; have HO226 := n0_; have BK0 := n1_; have BK222 := n2_; have HK := n3_; have HB := n4_; clear n0_ n1_ n2_ n3_ n4_)); refine store_event (t := 3) (p := 28) (v := ?vo_w23) (w1 := (w21.setCell ⟨g, 5, none⟩ (.int .i64 0))) ?hg ?ho ?hn ?hr ?_; (case ho => rfl); (case hg => rfl); (case hn => rfl); (case hr => first | (go_simp; done) | (go_simp; rfl)); intro w23 hw; have n0_ : Aside0 (Kd.R (Kd.int .i64) 3 w23 w0.heap.size (fun k_ => (P0_0_ k_ ∨ w.heap.size ≤ k_)) v225 t224) := ⟨(by rw [hw]; exact (by exact (Kd.R_farN HO226.out BK0.out)))⟩; have n1_ : Aside0 (w23.heap[g]? = some (.cells #[v225, .int .i64 t227, .int .i64 t228, .int .i64 1, .int .i64 t223, .int .i64 0] 90 (0, 0))) := ⟨(by rw [hw]; exact (by (with_reducible repeat (first | refine blk_drewN ?_ _ | refine blk_drew ?_ | refine blk_alloc ?_ _)); refine blk_put (cs := #[v225, .int .i64 t227, .int .i64 t228, .int .i64 1, .int .i64 t223, .int .i64 t231]) ?_ 5 _ rfl; (with_reducible repeat (first | refine blk_drewN ?_ _ | refine blk_drew ?_ | refine blk_alloc ?_ _)); exact BK0.out))⟩; have n2_ : Aside0 (w23.heap[gb222]? = some (.cells #[.int .i64 a1_0, .slice A1_1 l1_1.length c1_1] 41 (0, 0))) := ⟨(by rw [hw]; exact (by exact blk_kb BK222.out NB222_0.out))⟩; have n3_ : Aside0 (Kept w w23 (fun k_ => (P0_0_ k_) ∨ k_ = g)) := ⟨(by rw [hw]; exact (by exact kpt))⟩; have n4_ : Aside0 (Below w0.heap.size w0 w23) := ⟨(by rw [hw]; exact (by exact bel0))⟩; clear hw; clear HO226; clear BK0; clear BK222; clear HK; clear HB; have HO226 := n0_; have BK0 := n1_; have BK222 := n2_; have HK := n3_; have HB := n4_; clear n0_ n1_ n2_ n3_ n4_)))
      go_ret2
      exact ⟨by first | rfl | (simp [errW_none, errW_some] <;> rfl) | (simp [*, errW_none, errW_some] <;> rfl), (v225), by exact Kd.R_nw HO226.out, by exact blk_nw BK0.out, by exact bel0, by exact kpt⟩
  · rw [if_neg c3] at H
    have c3b0 : (a0_3 == 0) = false := beq_eq_false_iff_ne.mpr c3
    have c3b1 : (a0_3 != 0) = true := bne_iff_ne.mpr c3
    by_cases c24 : a0_3 = 1
    · rw [if_pos c24] at H
      have c24b0 : (a0_3 == 1) = true := beq_iff_eq.mpr c24
      have c24b1 : (a0_3 != 1) = false := bne_eq_false_iff_eq.mpr c24
      clear c24
      by_cases c25 : (wrap64 (a0_5 + 1)) < 2
      · rw [if_pos c25] at H
        have c25b0 : decide ((wrap64 (a0_5 + 1)) < 2) = true := decide_eq_true c25
        clear c25
        (try simp only [c25b0])
        simp only [Option.some.injEq, Prod.mk.injEq] at H
        obtain ⟨rfl, rfl, rfl, rfl, rfl, rfl, rfl, rfl⟩ := H
        go_enter Try.func127, Try.ntmps127
        go_wp2_with (first | ((with_reducible refine gate_dst (N := 3) rfl ?_); refine box_event ?hg (N := 3) ?hd (cs := #[.int .i64 a1_0, .slice A1_1 l1_1.length c1_1]) (t := 41) ?hr ?_; (case hd => rfl); (case hg => rfl); (case hr => first | (go_simp; done) | (go_simp; rfl)); intro gb222 hg w26 hbox hb; have n_ := an (Kd.R_below (by exact Kd.R_nw HO0_0.out) hb) (an (blk_below (blk_nw BK0.out) hb) (an (Kept.below (S := (fun k_ => (P0_0_ k_) ∨ k_ = g)) (by exact kpt) hb) (an (below_step (by exact bel0) hb) (an (hbox) (an ((by rw [hg]; exact (by first | exact HK.out.1 | exact (show Kept w _ (fun k_ => (P0_0_ k_) ∨ k_ = g) from by exact kpt).1) : w.heap.size ≤ gb222)) (an ((by rw [hg]; exact (below_size (by exact bel0)) : w0.heap.size ≤ gb222)) (an ((by rw [hg]; exact Nat.ne_of_lt (blk_lt (blk_nw BK0.out)) : g ≠ gb222)) (an ((by rw [hg]; exact Nat.ne_of_gt (blk_lt (blk_nw BK0.out)) : gb222 ≠ g)) (trivial))))))))); clear HO0_0 BK0 HK HB; obtain ⟨HO0_0, BK0, HK, HB, BK222, GW222, GE222, NB0_222, NB222_0, -⟩ := n_; clear hb hbox hg; have hnb27 := NB0_222.out; have hnc27 := NB222_0.out; obtain ⟨hcz28_0, hcz28_1, hcz28_2, hcz28_3, hcz28_4, hcz28_5⟩ := blkz6 BK0.out; have hfz28_0 := blkf BK0.out) | ((with_reducible refine gate_store (t := 3) (p := 38) rfl ?_); (try (rw [drewN_self w26]; generalize hq_ : World.drewN w26 _ = w26; have n0_ := Aside0.mk (Kd.R_at hq_ HO0_0.out); have n1_ := Aside0.mk (blk_at hq_ BK0.out); have n2_ := Aside0.mk (blk_at hq_ BK222.out); have n3_ := Aside0.mk (kept_at hq_ HK.out); have n4_ := Aside0.mk (below_at hq_ HB.out); clear hq_ HO0_0 BK0 BK222 HK HB; have HO0_0 := n0_; have BK0 := n1_; have BK222 := n2_; have HK := n3_; have HB := n4_; clear n0_ n1_ n2_ n3_ n4_)); refine store_event (t := 3) (p := 38) (v := ?vo_w29) (w1 := (w26.setCell ⟨g, 5, none⟩ (.int .i64 (wrap64 (a0_5 + 1))))) ?hg ?ho ?hn ?hr ?_; (case ho => rfl); (case hg => rfl); (case hn => rfl); (case hr => first | (go_simp; done) | (go_simp; rfl)); intro w29 hw; have n0_ : Aside0 (Kd.R (Kd.int .i64) 3 w29 w0.heap.size (fun k_ => (P0_0_ k_ ∨ w.heap.size ≤ k_)) u9000_ l0_0) := ⟨(by rw [hw]; exact (by exact (Kd.R_farN HO0_0.out BK0.out)))⟩; have n1_ : Aside0 (w29.heap[g]? = some (.cells #[u9000_, .int .i64 a0_1, .int .i64 a0_2, .int .i64 a0_3, .int .i64 a0_4, .int .i64 (wrap64 (a0_5 + 1))] 90 (0, 0))) := ⟨(by rw [hw]; exact (by (with_reducible repeat (first | refine blk_drewN ?_ _ | refine blk_drew ?_ | refine blk_alloc ?_ _)); refine blk_put (cs := #[u9000_, .int .i64 a0_1, .int .i64 a0_2, .int .i64 a0_3, .int .i64 a0_4, .int .i64 a0_5]) ?_ 5 _ rfl; (with_reducible repeat (first | refine blk_drewN ?_ _ | refine blk_drew ?_ | refine blk_alloc ?_ _)); exact BK0.out))⟩; have n2_ : Aside0 (w29.heap[gb222]? = some (.cells #[.int .i64 a1_0, .slice A1_1 l1_1.length c1_1] 41 (0, 0))) := ⟨(by rw [hw]; exact (by exact blk_kb BK222.out NB222_0.out))⟩; have n3_ : Aside0 (Kept w w29 (fun k_ => (P0_0_ k_) ∨ k_ = g)) := ⟨(by rw [hw]; exact (by exact kpt))⟩; have n4_ : Aside0 (Below w0.heap.size w0 w29) := ⟨(by rw [hw]; exact (by exact bel0))⟩; clear hw; clear HO0_0; clear BK0; clear BK222; clear HK; clear HB; have HO0_0 := n0_; have BK0 := n1_; have BK222 := n2_; have HK := n3_; have HB := n4_; clear n0_ n1_ n2_ n3_ n4_; obtain ⟨hcz30_0, hcz30_1, hcz30_2, hcz30_3, hcz30_4, hcz30_5⟩ := blkz6 BK0.out; have hfz30_0 := blkf BK0.out))
        repeat (go_quiet (fail); try go_wp2_with (first | ((with_reducible refine gate_dst (N := 3) rfl ?_); refine box_event ?hg (N := 3) ?hd (cs := #[.int .i64 a1_0, .slice A1_1 l1_1.length c1_1]) (t := 41) ?hr ?_; (case hd => rfl); (case hg => rfl); (case hr => first | (go_simp; done) | (go_simp; rfl)); intro gb222 hg w26 hbox hb; have n_ := an (Kd.R_below (by exact Kd.R_nw HO0_0.out) hb) (an (blk_below (blk_nw BK0.out) hb) (an (Kept.below (S := (fun k_ => (P0_0_ k_) ∨ k_ = g)) (by exact kpt) hb) (an (below_step (by exact bel0) hb) (an (hbox) (an ((by rw [hg]; exact (by first | exact HK.out.1 | exact (show Kept w _ (fun k_ => (P0_0_ k_) ∨ k_ = g) from by exact kpt).1) : w.heap.size ≤ gb222)) (an ((by rw [hg]; exact (below_size (by exact bel0)) : w0.heap.size ≤ gb222)) (an ((by rw [hg]; exact Nat.ne_of_lt (blk_lt (blk_nw BK0.out)) : g ≠ gb222)) (an ((by rw [hg]; exact Nat.ne_of_gt (blk_lt (blk_nw BK0.out)) : gb222 ≠ g)) (trivial))))))))); clear HO0_0 BK0 HK HB; obtain ⟨HO0_0, BK0, HK, HB, BK222, GW222, GE222, NB0_222, NB222_0, -⟩ := n_; clear hb hbox hg; have hnb27 := NB0_222.out; have hnc27 := NB222_0.out; obtain ⟨hcz28_0, hcz28_1, hcz28_2, hcz28_3, hcz28_4, hcz28_5⟩ := blkz6 BK0.out; have hfz28_0 := blkf BK0.out) | ((with_reducible refine gate_store (t := 3) (p := 38) rfl ?_); (try (rw [drewN_self w26]; generalize hq_ : World.drewN w26 _ = w26; have n0_ := Aside0.mk (Kd.R_at hq_ HO0_0.out); have n1_ := Aside0.mk (blk_at hq_ BK0.out); have n2_ := Aside0.mk (blk_at hq_ BK222.out); have n3_ := Aside0.mk (kept_at hq_ HK.out); have n4_ := Aside0.mk (below_at hq_ HB.out); clear hq_ HO0_0 BK0 BK222 HK HB; have HO0_0 := n0_; have BK0 := n1_; have BK222 := n2_; have HK := n3_; have HB := n4_; clear n0_ n1_ n2_ n3_ n4_)); refine store_event (t := 3) (p := 38) (v := ?vo_w29) (w1 := (w26.setCell ⟨g, 5, none⟩ (.int .i64 (wrap64 (a0_5 + 1))))) ?hg ?ho ?hn ?hr ?_; (case ho => rfl); (case hg => rfl); (case hn => rfl); (case hr => first | (go_simp; done) | (go_simp; rfl)); intro w29 hw; have n0_ : Aside0 (Kd.R (Kd.int .i64) 3 w29 w0.heap.size (fun k_ => (P0_0_ k_ ∨ w.heap.size ≤ k_)) u9000_ l0_0) := ⟨(by rw [hw]; exact (by exact (Kd.R_farN HO0_0.out BK0.out)))⟩; have n1_ : Aside0 (w29.heap[g]? = some (.cells #[u9000_, .int .i64 a0_1, .int .i64 a0_2, .int .i64 a0_3, .int .i64 a0_4, .int .i64 (wrap64 (a0_5 + 1))] 90 (0, 0))) := ⟨(by rw [hw]; exact (by (with_reducible repeat (first | refine blk_drewN ?_ _ | refine blk_drew ?_ | refine blk_alloc ?_ _)); refine blk_put (cs := #[u9000_, .int .i64 a0_1, .int .i64 a0_2, .int .i64 a0_3, .int .i64 a0_4, .int .i64 a0_5]) ?_ 5 _ rfl; (with_reducible repeat (first | refine blk_drewN ?_ _ | refine blk_drew ?_ | refine blk_alloc ?_ _)); exact BK0.out))⟩; have n2_ : Aside0 (w29.heap[gb222]? = some (.cells #[.int .i64 a1_0, .slice A1_1 l1_1.length c1_1] 41 (0, 0))) := ⟨(by rw [hw]; exact (by exact blk_kb BK222.out NB222_0.out))⟩; have n3_ : Aside0 (Kept w w29 (fun k_ => (P0_0_ k_) ∨ k_ = g)) := ⟨(by rw [hw]; exact (by exact kpt))⟩; have n4_ : Aside0 (Below w0.heap.size w0 w29) := ⟨(by rw [hw]; exact (by exact bel0))⟩; clear hw; clear HO0_0; clear BK0; clear BK222; clear HK; clear HB; have HO0_0 := n0_; have BK0 := n1_; have BK222 := n2_; have HK := n3_; have HB := n4_; clear n0_ n1_ n2_ n3_ n4_; obtain ⟨hcz30_0, hcz30_1, hcz30_2, hcz30_3, hcz30_4, hcz30_5⟩ := blkz6 BK0.out; have hfz30_0 := blkf BK0.out)))
        go_ret2
        exact ⟨by first | rfl | (simp [errW_none, errW_some] <;> rfl) | (simp [*, errW_none, errW_some] <;> rfl), (u9000_), by exact Kd.R_nw HO0_0.out, by exact blk_nw BK0.out, by exact bel0, by exact kpt⟩
      · rw [if_neg c25] at H
        have c25b0 : decide ((wrap64 (a0_5 + 1)) < 2) = false := decide_eq_false c25
        clear c25
        (try simp only [c25b0])
        simp only [Option.some.injEq, Prod.mk.injEq] at H
        obtain ⟨rfl, rfl, rfl, rfl, rfl, rfl, rfl, rfl⟩ := H
        go_enter Try.func127, Try.ntmps127
        go_wp2_with (first | ((with_reducible refine gate_dst (N := 3) rfl ?_); refine box_event ?hg (N := 3) ?hd (cs := #[.int .i64 a1_0, .slice A1_1 l1_1.length c1_1]) (t := 41) ?hr ?_; (case hd => rfl); (case hg => rfl); (case hr => first | (go_simp; done) | (go_simp; rfl)); intro gb222 hg w31 hbox hb; have n_ := an (Kd.R_below (by exact Kd.R_nw HO0_0.out) hb) (an (blk_below (blk_nw BK0.out) hb) (an (Kept.below (S := (fun k_ => (P0_0_ k_) ∨ k_ = g)) (by exact kpt) hb) (an (below_step (by exact bel0) hb) (an (hbox) (an ((by rw [hg]; exact (by first | exact HK.out.1 | exact (show Kept w _ (fun k_ => (P0_0_ k_) ∨ k_ = g) from by exact kpt).1) : w.heap.size ≤ gb222)) (an ((by rw [hg]; exact (below_size (by exact bel0)) : w0.heap.size ≤ gb222)) (an ((by rw [hg]; exact Nat.ne_of_lt (blk_lt (blk_nw BK0.out)) : g ≠ gb222)) (an ((by rw [hg]; exact Nat.ne_of_gt (blk_lt (blk_nw BK0.out)) : gb222 ≠ g)) (trivial))))))))); clear HO0_0 BK0 HK HB; obtain ⟨HO0_0, BK0, HK, HB, BK222, GW222, GE222, NB0_222, NB222_0, -⟩ := n_; clear hb hbox hg; have hnb32 := NB0_222.out; have hnc32 := NB222_0.out; obtain ⟨hcz33_0, hcz33_1, hcz33_2, hcz33_3, hcz33_4, hcz33_5⟩ := blkz6 BK0.out; have hfz33_0 := blkf BK0.out) | ((with_reducible refine gate_store (t := 3) (p := 38) rfl ?_); (try (rw [drewN_self w31]; generalize hq_ : World.drewN w31 _ = w31; have n0_ := Aside0.mk (Kd.R_at hq_ HO0_0.out); have n1_ := Aside0.mk (blk_at hq_ BK0.out); have n2_ := Aside0.mk (blk_at hq_ BK222.out); have n3_ := Aside0.mk (kept_at hq_ HK.out); have n4_ := Aside0.mk (below_at hq_ HB.out); clear hq_ HO0_0 BK0 BK222 HK HB; have HO0_0 := n0_; have BK0 := n1_; have BK222 := n2_; have HK := n3_; have HB := n4_; clear n0_ n1_ n2_ n3_ n4_)); refine store_event (t := 3) (p := 38) (v := ?vo_w34) (w1 := (w31.setCell ⟨g, 5, none⟩ (.int .i64 (wrap64 (a0_5 + 1))))) ?hg ?ho ?hn ?hr ?_; (case ho => rfl); (case hg => rfl); (case hn => rfl); (case hr => first | (go_simp; done) | (go_simp; rfl)); intro w34 hw; have n0_ : Aside0 (Kd.R (Kd.int .i64) 3 w34 w0.heap.size (fun k_ => (P0_0_ k_ ∨ w.heap.size ≤ k_)) u9000_ l0_0) := ⟨(by rw [hw]; exact (by exact (Kd.R_farN HO0_0.out BK0.out)))⟩; have n1_ : Aside0 (w34.heap[g]? = some (.cells #[u9000_, .int .i64 a0_1, .int .i64 a0_2, .int .i64 a0_3, .int .i64 a0_4, .int .i64 (wrap64 (a0_5 + 1))] 90 (0, 0))) := ⟨(by rw [hw]; exact (by (with_reducible repeat (first | refine blk_drewN ?_ _ | refine blk_drew ?_ | refine blk_alloc ?_ _)); refine blk_put (cs := #[u9000_, .int .i64 a0_1, .int .i64 a0_2, .int .i64 a0_3, .int .i64 a0_4, .int .i64 a0_5]) ?_ 5 _ rfl; (with_reducible repeat (first | refine blk_drewN ?_ _ | refine blk_drew ?_ | refine blk_alloc ?_ _)); exact BK0.out))⟩; have n2_ : Aside0 (w34.heap[gb222]? = some (.cells #[.int .i64 a1_0, .slice A1_1 l1_1.length c1_1] 41 (0, 0))) := ⟨(by rw [hw]; exact (by exact blk_kb BK222.out NB222_0.out))⟩; have n3_ : Aside0 (Kept w w34 (fun k_ => (P0_0_ k_) ∨ k_ = g)) := ⟨(by rw [hw]; exact (by exact kpt))⟩; have n4_ : Aside0 (Below w0.heap.size w0 w34) := ⟨(by rw [hw]; exact (by exact bel0))⟩; clear hw; clear HO0_0; clear BK0; clear BK222; clear HK; clear HB; have HO0_0 := n0_; have BK0 := n1_; have BK222 := n2_; have HK := n3_; have HB := n4_; clear n0_ n1_ n2_ n3_ n4_; obtain ⟨hcz35_0, hcz35_1, hcz35_2, hcz35_3, hcz35_4, hcz35_5⟩ := blkz6 BK0.out; have hfz35_0 := blkf BK0.out) | ((with_reducible refine gate_store (t := 3) (p := 46) rfl ?_); (try (rw [drewN_self w34]; generalize hq_ : World.drewN w34 _ = w34; have n0_ := Aside0.mk (Kd.R_at hq_ HO0_0.out); have n1_ := Aside0.mk (blk_at hq_ BK0.out); have n2_ := Aside0.mk (blk_at hq_ BK222.out); have n3_ := Aside0.mk (kept_at hq_ HK.out); have n4_ := Aside0.mk (below_at hq_ HB.out); clear hq_ HO0_0 BK0 BK222 HK HB; have HO0_0 := n0_; have BK0 := n1_; have BK222 := n2_; have HK := n3_; have HB := n4_; clear n0_ n1_ n2_ n3_ n4_)); refine store_event (t := 3) (p := 46) (v := ?vo_w36) (w1 := (w34.setCell ⟨g, 3, none⟩ (.int .i64 2))) ?hg ?ho ?hn ?hr ?_; (case ho => rfl); (case hg => rfl); (case hn => rfl); (case hr => first | (go_simp; done) | (go_simp; rfl)); intro w36 hw; have n0_ : Aside0 (Kd.R (Kd.int .i64) 3 w36 w0.heap.size (fun k_ => (P0_0_ k_ ∨ w.heap.size ≤ k_)) u9000_ l0_0) := ⟨(by rw [hw]; exact (by exact (Kd.R_farN HO0_0.out BK0.out)))⟩; have n1_ : Aside0 (w36.heap[g]? = some (.cells #[u9000_, .int .i64 a0_1, .int .i64 a0_2, .int .i64 2, .int .i64 a0_4, .int .i64 (wrap64 (a0_5 + 1))] 90 (0, 0))) := ⟨(by rw [hw]; exact (by (with_reducible repeat (first | refine blk_drewN ?_ _ | refine blk_drew ?_ | refine blk_alloc ?_ _)); refine blk_put (cs := #[u9000_, .int .i64 a0_1, .int .i64 a0_2, .int .i64 a0_3, .int .i64 a0_4, .int .i64 (wrap64 (a0_5 + 1))]) ?_ 3 _ rfl; (with_reducible repeat (first | refine blk_drewN ?_ _ | refine blk_drew ?_ | refine blk_alloc ?_ _)); exact BK0.out))⟩; have n2_ : Aside0 (w36.heap[gb222]? = some (.cells #[.int .i64 a1_0, .slice A1_1 l1_1.length c1_1] 41 (0, 0))) := ⟨(by rw [hw]; exact (by exact blk_kb BK222.out NB222_0.out))⟩; have n3_ : Aside0 (Kept w w36 (fun k_ => (P0_0_ k_) ∨ k_ = g)) := ⟨(by rw [hw]; exact (by exact kpt))⟩; have n4_ : Aside0 (Below w0.heap.size w0 w36) := ⟨(by rw [hw]; exact (by exact bel0))⟩; clear hw; clear HO0_0; clear BK0; clear BK222; clear HK; clear HB; have HO0_0 := n0_; have BK0 := n1_; have BK222 := n2_; have HK := n3_; have HB := n4_; clear n0_ n1_ n2_ n3_ n4_; obtain ⟨hcz37_0, hcz37_1, hcz37_2, hcz37_3, hcz37_4, hcz37_5⟩ := blkz6 BK0.out; have hfz37_0 := blkf BK0.out) | ((with_reducible refine gate_store (t := 3) (p := 49) rfl ?_); (try (rw [drewN_self w36]; generalize hq_ : World.drewN w36 _ = w36; have n0_ := Aside0.mk (Kd.R_at hq_ HO0_0.out); have n1_ := Aside0.mk (blk_at hq_ BK0.out); have n2_ := Aside0.mk (blk_at hq_ BK222.out); have n3_ := Aside0.mk (kept_at hq_ HK.out); have n4_ := Aside0.mk (below_at hq_ HB.out); clear hq_ HO0_0 BK0 BK222 HK HB; have HO0_0 := n0_; have BK0 := n1_; have BK222 := n2_; have HK := n3_; have HB := n4_; clear n0_ n1_ n2_ n3_ n4_)); refine store_event (t := 3) (p := 49) (v := ?vo_w38) (w1 := (w36.setCell ⟨g, 5, none⟩ (.int .i64 0))) ?hg ?ho ?hn ?hr ?_; (case ho => rfl); (case hg => rfl); (case hn => rfl); (case hr => first | (go_simp; done) | (go_simp; rfl)); intro w38 hw; have n0_ : Aside0 (Kd.R (Kd.int .i64) 3 w38 w0.heap.size (fun k_ => (P0_0_ k_ ∨ w.heap.size ≤ k_)) u9000_ l0_0) := ⟨(by rw [hw]; exact (by exact (Kd.R_farN HO0_0.out BK0.out)))⟩; have n1_ : Aside0 (w38.heap[g]? = some (.cells #[u9000_, .int .i64 a0_1, .int .i64 a0_2, .int .i64 2, .int .i64 a0_4, .int .i64 0] 90 (0, 0))) := ⟨(by rw [hw]; exact (by (with_reducible repeat (first | refine blk_drewN ?_ _ | refine blk_drew ?_ | refine blk_alloc ?_ _)); refine blk_put (cs := #[u9000_, .int .i64 a0_1, .int .i64 a0_2, .int .i64 2, .int .i64 a0_4, .int .i64 (wrap64 (a0_5 + 1))]) ?_ 5 _ rfl; (with_reducible repeat (first | refine blk_drewN ?_ _ | refine blk_drew ?_ | refine blk_alloc ?_ _)); exact BK0.out))⟩; have n2_ : Aside0 (w38.heap[gb222]? = some (.cells #[.int .i64 a1_0, .slice A1_1 l1_1.length c1_1] 41 (0, 0))) := ⟨(by rw [hw]; exact (by exact blk_kb BK222.out NB222_0.out))⟩; have n3_ : Aside0 (Kept w w38 (fun k_ => (P0_0_ k_) ∨ k_ = g)) := ⟨(by rw [hw]; exact (by exact kpt))⟩; have n4_ : Aside0 (Below w0.heap.size w0 w38) := ⟨(by rw [hw]; exact (by exact bel0))⟩; clear hw; clear HO0_0; clear BK0; clear BK222; clear HK; clear HB; have HO0_0 := n0_; have BK0 := n1_; have BK222 := n2_; have HK := n3_; have HB := n4_; clear n0_ n1_ n2_ n3_ n4_; obtain ⟨hcz39_0, hcz39_1, hcz39_2, hcz39_3, hcz39_4, hcz39_5⟩ := blkz6 BK0.out; have hfz39_0 := blkf BK0.out))
        repeat (go_quiet (fail); try go_wp2_with (first | ((with_reducible refine gate_dst (N := 3) rfl ?_); refine box_event ?hg (N := 3) ?hd (cs := #[.int .i64 a1_0, .slice A1_1 l1_1.length c1_1]) (t := 41) ?hr ?_; (case hd => rfl); (case hg => rfl); (case hr => first | (go_simp; done) | (go_simp; rfl)); intro gb222 hg w31 hbox hb; have n_ := an (Kd.R_below (by exact Kd.R_nw HO0_0.out) hb) (an (blk_below (blk_nw BK0.out) hb) (an (Kept.below (S := (fun k_ => (P0_0_ k_) ∨ k_ = g)) (by exact kpt) hb) (an (below_step (by exact bel0) hb) (an (hbox) (an ((by rw [hg]; exact (by first | exact HK.out.1 | exact (show Kept w _ (fun k_ => (P0_0_ k_) ∨ k_ = g) from by exact kpt).1) : w.heap.size ≤ gb222)) (an ((by rw [hg]; exact (below_size (by exact bel0)) : w0.heap.size ≤ gb222)) (an ((by rw [hg]; exact Nat.ne_of_lt (blk_lt (blk_nw BK0.out)) : g ≠ gb222)) (an ((by rw [hg]; exact Nat.ne_of_gt (blk_lt (blk_nw BK0.out)) : gb222 ≠ g)) (trivial))))))))); clear HO0_0 BK0 HK HB; obtain ⟨HO0_0, BK0, HK, HB, BK222, GW222, GE222, NB0_222, NB222_0, -⟩ := n_; clear hb hbox hg; have hnb32 := NB0_222.out; have hnc32 := NB222_0.out; obtain ⟨hcz33_0, hcz33_1, hcz33_2, hcz33_3, hcz33_4, hcz33_5⟩ := blkz6 BK0.out; have hfz33_0 := blkf BK0.out) | ((with_reducible refine gate_store (t := 3) (p := 38) rfl ?_); (try (rw [drewN_self w31]; generalize hq_ : World.drewN w31 _ = w31; have n0_ := Aside0.mk (Kd.R_at hq_ HO0_0.out); have n1_ := Aside0.mk (blk_at hq_ BK0.out); have n2_ := Aside0.mk (blk_at hq_ BK222.out); have n3_ := Aside0.mk (kept_at hq_ HK.out); have n4_ := Aside0.mk (below_at hq_ HB.out); clear hq_ HO0_0 BK0 BK222 HK HB; have HO0_0 := n0_; have BK0 := n1_; have BK222 := n2_; have HK := n3_; have HB := n4_; clear n0_ n1_ n2_ n3_ n4_)); refine store_event (t := 3) (p := 38) (v := ?vo_w34) (w1 := (w31.setCell ⟨g, 5, none⟩ (.int .i64 (wrap64 (a0_5 + 1))))) ?hg ?ho ?hn ?hr ?_; (case ho => rfl); (case hg => rfl); (case hn => rfl); (case hr => first | (go_simp; done) | (go_simp; rfl)); intro w34 hw; have n0_ : Aside0 (Kd.R (Kd.int .i64) 3 w34 w0.heap.size (fun k_ => (P0_0_ k_ ∨ w.heap.size ≤ k_)) u9000_ l0_0) := ⟨(by rw [hw]; exact (by exact (Kd.R_farN HO0_0.out BK0.out)))⟩; have n1_ : Aside0 (w34.heap[g]? = some (.cells #[u9000_, .int .i64 a0_1, .int .i64 a0_2, .int .i64 a0_3, .int .i64 a0_4, .int .i64 (wrap64 (a0_5 + 1))] 90 (0, 0))) := ⟨(by rw [hw]; exact (by (with_reducible repeat (first | refine blk_drewN ?_ _ | refine blk_drew ?_ | refine blk_alloc ?_ _)); refine blk_put (cs := #[u9000_, .int .i64 a0_1, .int .i64 a0_2, .int .i64 a0_3, .int .i64 a0_4, .int .i64 a0_5]) ?_ 5 _ rfl; (with_reducible repeat (first | refine blk_drewN ?_ _ | refine blk_drew ?_ | refine blk_alloc ?_ _)); exact BK0.out))⟩; have n2_ : Aside0 (w34.heap[gb222]? = some (.cells #[.int .i64 a1_0, .slice A1_1 l1_1.length c1_1] 41 (0, 0))) := ⟨(by rw [hw]; exact (by exact blk_kb BK222.out NB222_0.out))⟩; have n3_ : Aside0 (Kept w w34 (fun k_ => (P0_0_ k_) ∨ k_ = g)) := ⟨(by rw [hw]; exact (by exact kpt))⟩; have n4_ : Aside0 (Below w0.heap.size w0 w34) := ⟨(by rw [hw]; exact (by exact bel0))⟩; clear hw; clear HO0_0; clear BK0; clear BK222; clear HK; clear HB; have HO0_0 := n0_; have BK0 := n1_; have BK222 := n2_; have HK := n3_; have HB := n4_; clear n0_ n1_ n2_ n3_ n4_; obtain ⟨hcz35_0, hcz35_1, hcz35_2, hcz35_3, hcz35_4, hcz35_5⟩ := blkz6 BK0.out; have hfz35_0 := blkf BK0.out) | ((with_reducible refine gate_store (t := 3) (p := 46) rfl ?_); (try (rw [drewN_self w34]; generalize hq_ : World.drewN w34 _ = w34; have n0_ := Aside0.mk (Kd.R_at hq_ HO0_0.out); have n1_ := Aside0.mk (blk_at hq_ BK0.out); have n2_ := Aside0.mk (blk_at hq_ BK222.out); have n3_ := Aside0.mk (kept_at hq_ HK.out); have n4_ := Aside0.mk (below_at hq_ HB.out); clear hq_ HO0_0 BK0 BK222 HK HB; have HO0_0 := n0_; have BK0 := n1_; have BK222 := n2_; have HK := n3_; have HB := n4_; clear n0_ n1_ n2_ n3_ n4_)); refine store_event (t := 3) (p := 46) (v := ?vo_w36) (w1 := (w34.setCell ⟨g, 3, none⟩ (.int .i64 2))) ?hg ?ho ?hn ?hr ?_; (case ho => rfl); (case hg => rfl); (case hn => rfl); (case hr => first | (go_simp; done) | (go_simp; rfl)); intro w36 hw; have n0_ : Aside0 (Kd.R (Kd.int .i64) 3 w36 w0.heap.size (fun k_ => (P0_0_ k_ ∨ w.heap.size ≤ k_)) u9000_ l0_0) := ⟨(by rw [hw]; exact (by exact (Kd.R_farN HO0_0.out BK0.out)))⟩; have n1_ : Aside0 (w36.heap[g]? = some (.cells #[u9000_, .int .i64 a0_1, .int .i64 a0_2, .int .i64 2, .int .i64 a0_4, .int .i64 (wrap64 (a0_5 + 1))] 90 (0, 0))) := ⟨(by rw [hw]; exact (by (with_reducible repeat (first | refine blk_drewN ?_ _ | refine blk_drew ?_ | refine blk_alloc ?_ _)); refine blk_put (cs := #[u9000_, .int .i64 a0_1, .int .i64 a0_2, .int .i64 a0_3, .int .i64 a0_4, .int .i64 (wrap64 (a0_5 + 1))]) ?_ 3 _ rfl; (with_reducible repeat (first | refine blk_drewN ?_ _ | refine blk_drew ?_ | refine blk_alloc ?_ _)); exact BK0.out))⟩; have n2_ : Aside0 (w36.heap[gb222]? = some (.cells #[.int .i64 a1_0, .slice A1_1 l1_1.length c1_1] 41 (0, 0))) := ⟨(by rw [hw]; exact (by exact blk_kb BK222.out NB222_0.out))⟩; have n3_ : Aside0 (Kept w w36 (fun k_ => (P0_0_ k_) ∨ k_ = g)) := ⟨(by rw [hw]; exact (by exact kpt))⟩; have n4_ : Aside0 (Below w0.heap.size w0 w36) := ⟨(by rw [hw]; exact (by exact bel0))⟩; clear hw; clear HO0_0; clear BK0; clear BK222; clear HK; clear HB; have HO0_0 := n0_; have BK0 := n1_; have BK222 := n2_; have HK := n3_; have HB := n4_; clear n0_ n1_ n2_ n3_ n4_; obtain ⟨hcz37_0, hcz37_1, hcz37_2, hcz37_3, hcz37_4, hcz37_5⟩ := blkz6 BK0.out; have hfz37_0 := blkf BK0.out) | ((with_reducible refine gate_store (t := 3) (p := 49) rfl ?_); (try (rw [drewN_self w36]; generalize hq_ : World.drewN w36 _ = w36; have n0_ := Aside0.mk (Kd.R_at hq_ HO0_0.out); have n1_ := Aside0.mk (blk_at hq_ BK0.out); have n2_ := Aside0.mk (blk_at hq_ BK222.out); have n3_ := Aside0.mk (kept_at hq_ HK.out); have n4_ := Aside0.mk (below_at hq_ HB.out); clear hq_ HO0_0 BK0 BK222 HK HB; have HO0_0 := n0_; have BK0 := n1_; have BK222 := n2_; have HK := n3_; have HB := n4_; clear n0_ n1_ n2_ n3_ n4_)); refine store_event (t := 3) (p := 49) (v := ?vo_w38) (w1 := (w36.setCell ⟨g, 5, none⟩ (.int .i64 0))) ?hg ?ho ?hn ?hr ?_; (case ho => rfl); (case hg => rfl); (case hn => rfl); (case hr => first | (go_simp; done) | (go_simp; rfl)); intro w38 hw; have n0_ : Aside0 (Kd.R (Kd.int .i64) 3 w38 w0.heap.size (fun k_ => (P0_0_ k_ ∨ w.heap.size ≤ k_)) u9000_ l0_0) := ⟨(by rw [hw]; exact (by exact (Kd.R_farN HO0_0.out BK0.out)))⟩; have n1_ : Aside0 (w38.heap[g]? = some (.cells #[u9000_, .int .i64 a0_1, .int .i64 a0_2, .int .i64 2, .int .i64 a0_4, .int .i64 0] 90 (0, 0))) := ⟨(by rw [hw]; exact (by (with_reducible repeat (first | refine blk_drewN ?_ _ | refine blk_drew ?_ | refine blk_alloc ?_ _)); refine blk_put (cs := #[u9000_, .int .i64 a0_1, .int .i64 a0_2, .int .i64 2, .int .i64 a0_4, .int .i64 (wrap64 (a0_5 + 1))]) ?_ 5 _ rfl; (with_reducible repeat (first | refine blk_drewN ?_ _ | refine blk_drew ?_ | refine blk_alloc ?_ _)); exact BK0.out))⟩; have n2_ : Aside0 (w38.heap[gb222]? = some (.cells #[.int .i64 a1_0, .slice A1_1 l1_1.length c1_1] 41 (0, 0))) := ⟨(by rw [hw]; exact (by exact blk_kb BK222.out NB222_0.out))⟩; have n3_ : Aside0 (Kept w w38 (fun k_ => (P0_0_ k_) ∨ k_ = g)) := ⟨(by rw [hw]; exact (by exact kpt))⟩; have n4_ : Aside0 (Below w0.heap.size w0 w38) := ⟨(by rw [hw]; exact (by exact bel0))⟩; clear hw; clear HO0_0; clear BK0; clear BK222; clear HK; clear HB; have HO0_0 := n0_; have BK0 := n1_; have BK222 := n2_; have HK := n3_; have HB := n4_; clear n0_ n1_ n2_ n3_ n4_; obtain ⟨hcz39_0, hcz39_1, hcz39_2, hcz39_3, hcz39_4, hcz39_5⟩ := blkz6 BK0.out; have hfz39_0 := blkf BK0.out)))
        go_ret2
        exact ⟨by first | rfl | (simp [errW_none, errW_some] <;> rfl) | (simp [*, errW_none, errW_some] <;> rfl), (u9000_), by exact Kd.R_nw HO0_0.out, by exact blk_nw BK0.out, by exact bel0, by exact kpt⟩
    · rw [if_neg c24] at H
      have c24b0 : (a0_3 == 1) = false := beq_eq_false_iff_ne.mpr c24
      have c24b1 : (a0_3 != 1) = true := bne_iff_ne.mpr c24
      by_cases c40 : (wrap64 (a0_5 + 1)) < 4
      · rw [if_pos c40] at H
        have c40b0 : decide ((wrap64 (a0_5 + 1)) < 4) = true := decide_eq_true c40
        clear c40
        (try simp only [c40b0])
        simp only [Option.some.injEq, Prod.mk.injEq] at H
        obtain ⟨rfl, rfl, rfl, rfl, rfl, rfl, rfl, rfl⟩ := H
        go_enter Try.func127, Try.ntmps127
        go_wp2_with (first | ((with_reducible refine gate_dst (N := 3) rfl ?_); refine box_event ?hg (N := 3) ?hd (cs := #[.int .i64 a1_0, .slice A1_1 l1_1.length c1_1]) (t := 41) ?hr ?_; (case hd => rfl); (case hg => rfl); (case hr => first | (go_simp; done) | (go_simp; rfl)); intro gb222 hg w41 hbox hb; have n_ := an (Kd.R_below (by exact Kd.R_nw HO0_0.out) hb) (an (blk_below (blk_nw BK0.out) hb) (an (Kept.below (S := (fun k_ => (P0_0_ k_) ∨ k_ = g)) (by exact kpt) hb) (an (below_step (by exact bel0) hb) (an (hbox) (an ((by rw [hg]; exact (by first | exact HK.out.1 | exact (show Kept w _ (fun k_ => (P0_0_ k_) ∨ k_ = g) from by exact kpt).1) : w.heap.size ≤ gb222)) (an ((by rw [hg]; exact (below_size (by exact bel0)) : w0.heap.size ≤ gb222)) (an ((by rw [hg]; exact Nat.ne_of_lt (blk_lt (blk_nw BK0.out)) : g ≠ gb222)) (an ((by rw [hg]; exact Nat.ne_of_gt (blk_lt (blk_nw BK0.out)) : gb222 ≠ g)) (trivial))))))))); clear HO0_0 BK0 HK HB; obtain ⟨HO0_0, BK0, HK, HB, BK222, GW222, GE222, NB0_222, NB222_0, -⟩ := n_; clear hb hbox hg; have hnb42 := NB0_222.out; have hnc42 := NB222_0.out; obtain ⟨hcz43_0, hcz43_1, hcz43_2, hcz43_3, hcz43_4, hcz43_5⟩ := blkz6 BK0.out; have hfz43_0 := blkf BK0.out) | ((with_reducible refine gate_store (t := 3) (p := 60) rfl ?_); (try (rw [drewN_self w41]; generalize hq_ : World.drewN w41 _ = w41; have n0_ := Aside0.mk (Kd.R_at hq_ HO0_0.out); have n1_ := Aside0.mk (blk_at hq_ BK0.out); have n2_ := Aside0.mk (blk_at hq_ BK222.out); have n3_ := Aside0.mk (kept_at hq_ HK.out); have n4_ := Aside0.mk (below_at hq_ HB.out); clear hq_ HO0_0 BK0 BK222 HK HB; have HO0_0 := n0_; have BK0 := n1_; have BK222 := n2_; have HK := n3_; have HB := n4_; clear n0_ n1_ n2_ n3_ n4_)); refine store_event (t := 3) (p := 60) (v := ?vo_w44) (w1 := (w41.setCell ⟨g, 5, none⟩ (.int .i64 (wrap64 (a0_5 + 1))))) ?hg ?ho ?hn ?hr ?_; (case ho => rfl); (case hg => rfl); (case hn => rfl); (case hr => first | (go_simp; done) | (go_simp; rfl)); intro w44 hw; have n0_ : Aside0 (Kd.R (Kd.int .i64) 3 w44 w0.heap.size (fun k_ => (P0_0_ k_ ∨ w.heap.size ≤ k_)) u9000_ l0_0) := ⟨(by rw [hw]; exact (by exact (Kd.R_farN HO0_0.out BK0.out)))⟩; have n1_ : Aside0 (w44.heap[g]? = some (.cells #[u9000_, .int .i64 a0_1, .int .i64 a0_2, .int .i64 a0_3, .int .i64 a0_4, .int .i64 (wrap64 (a0_5 + 1))] 90 (0, 0))) := ⟨(by rw [hw]; exact (by (with_reducible repeat (first | refine blk_drewN ?_ _ | refine blk_drew ?_ | refine blk_alloc ?_ _)); refine blk_put (cs := #[u9000_, .int .i64 a0_1, .int .i64 a0_2, .int .i64 a0_3, .int .i64 a0_4, .int .i64 a0_5]) ?_ 5 _ rfl; (with_reducible repeat (first | refine blk_drewN ?_ _ | refine blk_drew ?_ | refine blk_alloc ?_ _)); exact BK0.out))⟩; have n2_ : Aside0 (w44.heap[gb222]? = some (.cells #[.int .i64 a1_0, .slice A1_1 l1_1.length c1_1] 41 (0, 0))) := ⟨(by rw [hw]; exact (by exact blk_kb BK222.out NB222_0.out))⟩; have n3_ : Aside0 (Kept w w44 (fun k_ => (P0_0_ k_) ∨ k_ = g)) := ⟨(by rw [hw]; exact (by exact kpt))⟩; have n4_ : Aside0 (Below w0.heap.size w0 w44) := ⟨(by rw [hw]; exact (by exact bel0))⟩; clear hw; clear HO0_0; clear BK0; clear BK222; clear HK; clear HB; have HO0_0 := n0_; have BK0 := n1_; have BK222 := n2_; have HK := n3_; have HB := n4_; clear n0_ n1_ n2_ n3_ n4_; obtain ⟨hcz45_0, hcz45_1, hcz45_2, hcz45_3, hcz45_4, hcz45_5⟩ := blkz6 BK0.out; have hfz45_0 := blkf BK0.out))
        repeat (go_quiet (fail); try go_wp2_with (first | ((with_reducible refine gate_dst (N := 3) rfl ?_); refine box_event ?hg (N := 3) ?hd (cs := #[.int .i64 a1_0, .slice A1_1 l1_1.length c1_1]) (t := 41) ?hr ?_; (case hd => rfl); (case hg => rfl); (case hr => first | (go_simp; done) | (go_simp; rfl)); intro gb222 hg w41 hbox hb; have n_ := an (Kd.R_below (by exact Kd.R_nw HO0_0.out) hb) (an (blk_below (blk_nw BK0.out) hb) (an (Kept.below (S := (fun k_ => (P0_0_ k_) ∨ k_ = g)) (by exact kpt) hb) (an (below_step (by exact bel0) hb) (an (hbox) (an ((by rw [hg]; exact (by first | exact HK.out.1 | exact (show Kept w _ (fun k_ => (P0_0_ k_) ∨ k_ = g) from by exact kpt).1) : w.heap.size ≤ gb222)) (an ((by rw [hg]; exact (below_size (by exact bel0)) : w0.heap.size ≤ gb222)) (an ((by rw [hg]; exact Nat.ne_of_lt (blk_lt (blk_nw BK0.out)) : g ≠ gb222)) (an ((by rw [hg]; exact Nat.ne_of_gt (blk_lt (blk_nw BK0.out)) : gb222 ≠ g)) (trivial))))))))); clear HO0_0 BK0 HK HB; obtain ⟨HO0_0, BK0, HK, HB, BK222, GW222, GE222, NB0_222, NB222_0, -⟩ := n_; clear hb hbox hg; have hnb42 := NB0_222.out; have hnc42 := NB222_0.out; obtain ⟨hcz43_0, hcz43_1, hcz43_2, hcz43_3, hcz43_4, hcz43_5⟩ := blkz6 BK0.out; have hfz43_0 := blkf BK0.out) | ((with_reducible refine gate_store (t := 3) (p := 60) rfl ?_); (try (rw [drewN_self w41]; generalize hq_ : World.drewN w41 _ = w41; have n0_ := Aside0.mk (Kd.R_at hq_ HO0_0.out); have n1_ := Aside0.mk (blk_at hq_ BK0.out); have n2_ := Aside0.mk (blk_at hq_ BK222.out); have n3_ := Aside0.mk (kept_at hq_ HK.out); have n4_ := Aside0.mk (below_at hq_ HB.out); clear hq_ HO0_0 BK0 BK222 HK HB; have HO0_0 := n0_; have BK0 := n1_; have BK222 := n2_; have HK := n3_; have HB := n4_; clear n0_ n1_ n2_ n3_ n4_)); refine store_event (t := 3) (p := 60) (v := ?vo_w44) (w1 := (w41.setCell ⟨g, 5, none⟩ (.int .i64 (wrap64 (a0_5 + 1))))) ?hg ?ho ?hn ?hr ?_; (case ho => rfl); (case hg => rfl); (case hn => rfl); (case hr => first | (go_simp; done) | (go_simp; rfl)); intro w44 hw; have n0_ : Aside0 (Kd.R (Kd.int .i64) 3 w44 w0.heap.size (fun k_ => (P0_0_ k_ ∨ w.heap.size ≤ k_)) u9000_ l0_0) := ⟨(by rw [hw]; exact (by exact (Kd.R_farN HO0_0.out BK0.out)))⟩; have n1_ : Aside0 (w44.heap[g]? = some (.cells #[u9000_, .int .i64 a0_1, .int .i64 a0_2, .int .i64 a0_3, .int .i64 a0_4, .int .i64 (wrap64 (a0_5 + 1))] 90 (0, 0))) := ⟨(by rw [hw]; exact (by (with_reducible repeat (first | refine blk_drewN ?_ _ | refine blk_drew ?_ | refine blk_alloc ?_ _)); refine blk_put (cs := #[u9000_, .int .i64 a0_1, .int .i64 a0_2, .int .i64 a0_3, .int .i64 a0_4, .int .i64 a0_5]) ?_ 5 _ rfl; (with_reducible repeat (first | refine blk_drewN ?_ _ | refine blk_drew ?_ | refine blk_alloc ?_ _)); exact BK0.out))⟩; have n2_ : Aside0 (w44.heap[gb222]? = some (.cells #[.int .i64 a1_0, .slice A1_1 l1_1.length c1_1] 41 (0, 0))) := ⟨(by rw [hw]; exact (by exact blk_kb BK222.out NB222_0.out))⟩; have n3_ : Aside0 (Kept w w44 (fun k_ => (P0_0_ k_) ∨ k_ = g)) := ⟨(by rw [hw]; exact (by exact kpt))⟩; have n4_ : Aside0 (Below w0.heap.size w0 w44) := ⟨(by rw [hw]; exact (by exact bel0))⟩; clear hw; clear HO0_0; clear BK0; clear BK222; clear HK; clear HB; have HO0_0 := n0_; have BK0 := n1_; have BK222 := n2_; have HK := n3_; have HB := n4_; clear n0_ n1_ n2_ n3_ n4_; obtain ⟨hcz45_0, hcz45_1, hcz45_2, hcz45_3, hcz45_4, hcz45_5⟩ := blkz6 BK0.out; have hfz45_0 := blkf BK0.out)))
        go_ret2
        exact ⟨by first | rfl | (simp [errW_none, errW_some] <;> rfl) | (simp [*, errW_none, errW_some] <;> rfl), (u9000_), by exact Kd.R_nw HO0_0.out, by exact blk_nw BK0.out, by exact bel0, by exact kpt⟩
      · rw [if_neg c40] at H
        have c40b0 : decide ((wrap64 (a0_5 + 1)) < 4) = false := decide_eq_false c40
        clear c40
        (try simp only [c40b0])
        simp only [Option.some.injEq, Prod.mk.injEq] at H
        obtain ⟨rfl, rfl, rfl, rfl, rfl, rfl, rfl, rfl⟩ := H
        go_enter Try.func127, Try.ntmps127
        go_wp2_with (first | ((with_reducible refine gate_dst (N := 3) rfl ?_); refine box_event ?hg (N := 3) ?hd (cs := #[.int .i64 a1_0, .slice A1_1 l1_1.length c1_1]) (t := 41) ?hr ?_; (case hd => rfl); (case hg => rfl); (case hr => first | (go_simp; done) | (go_simp; rfl)); intro gb222 hg w46 hbox hb; have n_ := an (Kd.R_below (by exact Kd.R_nw HO0_0.out) hb) (an (blk_below (blk_nw BK0.out) hb) (an (Kept.below (S := (fun k_ => (P0_0_ k_) ∨ k_ = g)) (by exact kpt) hb) (an (below_step (by exact bel0) hb) (an (hbox) (an ((by rw [hg]; exact (by first | exact HK.out.1 | exact (show Kept w _ (fun k_ => (P0_0_ k_) ∨ k_ = g) from by exact kpt).1) : w.heap.size ≤ gb222)) (an ((by rw [hg]; exact (below_size (by exact bel0)) : w0.heap.size ≤ gb222)) (an ((by rw [hg]; exact Nat.ne_of_lt (blk_lt (blk_nw BK0.out)) : g ≠ gb222)) (an ((by rw [hg]; exact Nat.ne_of_gt (blk_lt (blk_nw BK0.out)) : gb222 ≠ g)) (trivial))))))))); clear HO0_0 BK0 HK HB; obtain ⟨HO0_0, BK0, HK, HB, BK222, GW222, GE222, NB0_222, NB222_0, -⟩ := n_; clear hb hbox hg; have hnb47 := NB0_222.out; have hnc47 := NB222_0.out; obtain ⟨hcz48_0, hcz48_1, hcz48_2, hcz48_3, hcz48_4, hcz48_5⟩ := blkz6 BK0.out; have hfz48_0 := blkf BK0.out) | ((with_reducible refine gate_store (t := 3) (p := 60) rfl ?_); (try (rw [drewN_self w46]; generalize hq_ : World.drewN w46 _ = w46; have n0_ := Aside0.mk (Kd.R_at hq_ HO0_0.out); have n1_ := Aside0.mk (blk_at hq_ BK0.out); have n2_ := Aside0.mk (blk_at hq_ BK222.out); have n3_ := Aside0.mk (kept_at hq_ HK.out); have n4_ := Aside0.mk (below_at hq_ HB.out); clear hq_ HO0_0 BK0 BK222 HK HB; have HO0_0 := n0_; have BK0 := n1_; have BK222 := n2_; have HK := n3_; have HB := n4_; clear n0_ n1_ n2_ n3_ n4_)); refine store_event (t := 3) (p := 60) (v := ?vo_w49) (w1 := (w46.setCell ⟨g, 5, none⟩ (.int .i64 (wrap64 (a0_5 + 1))))) ?hg ?ho ?hn ?hr ?_; (case ho => rfl); (case hg => rfl); (case hn => rfl); (case hr => first | (go_simp; done) | (go_simp; rfl)); intro w49 hw; have n0_ : Aside0 (Kd.R (Kd.int .i64) 3 w49 w0.heap.size (fun k_ => (P0_0_ k_ ∨ w.heap.size ≤ k_)) u9000_ l0_0) := ⟨(by rw [hw]; exact (by exact (Kd.R_farN HO0_0.out BK0.out)))⟩; have n1_ : Aside0 (w49.heap[g]? = some (.cells #[u9000_, .int .i64 a0_1, .int .i64 a0_2, .int .i64 a0_3, .int .i64 a0_4, .int .i64 (wrap64 (a0_5 + 1))] 90 (0, 0))) := ⟨(by rw [hw]; exact (by (with_reducible repeat (first | refine blk_drewN ?_ _ | refine blk_drew ?_ | refine blk_alloc ?_ _)); refine blk_put (cs := #[u9000_, .int .i64 a0_1, .int .i64 a0_2, .int .i64 a0_3, .int .i64 a0_4, .int .i64 a0_5]) ?_ 5 _ rfl; (with_reducible repeat (first | refine blk_drewN ?_ _ | refine blk_drew ?_ | refine blk_alloc ?_ _)); exact BK0.out))⟩; have n2_ : Aside0 (w49.heap[gb222]? = some (.cells #[.int .i64 a1_0, .slice A1_1 l1_1.length c1_1] 41 (0, 0))) := ⟨(by rw [hw]; exact (by exact blk_kb BK222.out NB222_0.out))⟩; have n3_ : Aside0 (Kept w w49 (fun k_ => (P0_0_ k_) ∨ k_ = g)) := ⟨(by rw [hw]; exact (by exact kpt))⟩; have n4_ : Aside0 (Below w0.heap.size w0 w49) := ⟨(by rw [hw]; exact (by exact bel0))⟩; clear hw; clear HO0_0; clear BK0; clear BK222; clear HK; clear HB; have HO0_0 := n0_; have BK0 := n1_; have BK222 := n2_; have HK := n3_; have HB := n4_; clear n0_ n1_ n2_ n3_ n4_; obtain ⟨hcz50_0, hcz50_1, hcz50_2, hcz50_3, hcz50_4, hcz50_5⟩ := blkz6 BK0.out; have hfz50_0 := blkf BK0.out) | ((with_reducible refine gate_store (t := 3) (p := 72) rfl ?_); (try (rw [drewN_self w49]; generalize hq_ : World.drewN w49 _ = w49; have n0_ := Aside0.mk (Kd.R_at hq_ HO0_0.out); have n1_ := Aside0.mk (blk_at hq_ BK0.out); have n2_ := Aside0.mk (blk_at hq_ BK222.out); have n3_ := Aside0.mk (kept_at hq_ HK.out); have n4_ := Aside0.mk (below_at hq_ HB.out); clear hq_ HO0_0 BK0 BK222 HK HB; have HO0_0 := n0_; have BK0 := n1_; have BK222 := n2_; have HK := n3_; have HB := n4_; clear n0_ n1_ n2_ n3_ n4_)); refine store_event (t := 3) (p := 72) (v := ?vo_w51) (w1 := (w49.setCell ⟨g, 3, none⟩ (.int .i64 0))) ?hg ?ho ?hn ?hr ?_; (case ho => rfl); (case hg => rfl); (case hn => rfl); (case hr => first | (go_simp; done) | (go_simp; rfl)); intro w51 hw; have n0_ : Aside0 (Kd.R (Kd.int .i64) 3 w51 w0.heap.size (fun k_ => (P0_0_ k_ ∨ w.heap.size ≤ k_)) u9000_ l0_0) := ⟨(by rw [hw]; exact (by exact (Kd.R_farN HO0_0.out BK0.out)))⟩; have n1_ : Aside0 (w51.heap[g]? = some (.cells #[u9000_, .int .i64 a0_1, .int .i64 a0_2, .int .i64 0, .int .i64 a0_4, .int .i64 (wrap64 (a0_5 + 1))] 90 (0, 0))) := ⟨(by rw [hw]; exact (by (with_reducible repeat (first | refine blk_drewN ?_ _ | refine blk_drew ?_ | refine blk_alloc ?_ _)); refine blk_put (cs := #[u9000_, .int .i64 a0_1, .int .i64 a0_2, .int .i64 a0_3, .int .i64 a0_4, .int .i64 (wrap64 (a0_5 + 1))]) ?_ 3 _ rfl; (with_reducible repeat (first | refine blk_drewN ?_ _ | refine blk_drew ?_ | refine blk_alloc ?_ _)); exact BK0.out))⟩; have n2_ : Aside0 (w51.heap[gb222]? = some (.cells #[.int .i64 a1_0, .slice A1_1 l1_1.length c1_1] 41 (0, 0))) := ⟨(by rw [hw]; exact (by exact blk_kb BK222.out NB222_0.out))⟩; have n3_ : Aside0 (Kept w w51 (fun k_ => (P0_0_ k_) ∨ k_ = g)) := ⟨(by rw [hw]; exact (by exact kpt))⟩; have n4_ : Aside0 (Below w0.heap.size w0 w51) := ⟨(by rw [hw]; exact (by exact bel0))⟩; clear hw; clear HO0_0; clear BK0; clear BK222; clear HK; clear HB; have HO0_0 := n0_; have BK0 := n1_; have BK222 := n2_; have HK := n3_; have HB := n4_; clear n0_ n1_ n2_ n3_ n4_; obtain ⟨hcz52_0, hcz52_1, hcz52_2, hcz52_3, hcz52_4, hcz52_5⟩ := blkz6 BK0.out; have hfz52_0 := blkf BK0.out) | ((with_reducible refine gate_store (t := 3) (p := 75) rfl ?_); (try (rw [drewN_self w51]; generalize hq_ : World.drewN w51 _ = w51; have n0_ := Aside0.mk (Kd.R_at hq_ HO0_0.out); have n1_ := Aside0.mk (blk_at hq_ BK0.out); have n2_ := Aside0.mk (blk_at hq_ BK222.out); have n3_ := Aside0.mk (kept_at hq_ HK.out); have n4_ := Aside0.mk (below_at hq_ HB.out); clear hq_ HO0_0 BK0 BK222 HK HB; have HO0_0 := n0_; have BK0 := n1_; have BK222 := n2_; have HK := n3_; have HB := n4_; clear n0_ n1_ n2_ n3_ n4_)); refine store_event (t := 3) (p := 75) (v := ?vo_w53) (w1 := (w51.setCell ⟨g, 4, none⟩ (.int .i64 0))) ?hg ?ho ?hn ?hr ?_; (case ho => rfl); (case hg => rfl); (case hn => rfl); (case hr => first | (go_simp; done) | (go_simp; rfl)); intro w53 hw; have n0_ : Aside0 (Kd.R (Kd.int .i64) 3 w53 w0.heap.size (fun k_ => (P0_0_ k_ ∨ w.heap.size ≤ k_)) u9000_ l0_0) := ⟨(by rw [hw]; exact (by exact (Kd.R_farN HO0_0.out BK0.out)))⟩; have n1_ : Aside0 (w53.heap[g]? = some (.cells #[u9000_, .int .i64 a0_1, .int .i64 a0_2, .int .i64 0, .int .i64 0, .int .i64 (wrap64 (a0_5 + 1))] 90 (0, 0))) := ⟨(by rw [hw]; exact (by (with_reducible repeat (first | refine blk_drewN ?_ _ | refine blk_drew ?_ | refine blk_alloc ?_ _)); refine blk_put (cs := #[u9000_, .int .i64 a0_1, .int .i64 a0_2, .int .i64 0, .int .i64 a0_4, .int .i64 (wrap64 (a0_5 + 1))]) ?_ 4 _ rfl; (with_reducible repeat (first | refine blk_drewN ?_ _ | refine blk_drew ?_ | refine blk_alloc ?_ _)); exact BK0.out))⟩; have n2_ : Aside0 (w53.heap[gb222]? = some (.cells #[.int .i64 a1_0, .slice A1_1 l1_1.length c1_1] 41 (0, 0))) := ⟨(by rw [hw]; exact (by exact blk_kb BK222.out NB222_0.out))⟩; have n3_ : Aside0 (Kept w w53 (fun k_ => (P0_0_ k_) ∨ k_ = g)) := ⟨(by rw [hw]; exact (by exact kpt))⟩; have n4_ : Aside0 (Below w0.heap.size w0 w53) := ⟨(by rw [hw]; exact (by exact bel0))⟩; clear hw; clear HO0_0; clear BK0; clear BK222; clear HK; clear HB; have HO0_0 := n0_; have BK0 := n1_; have BK222 := n2_; have HK := n3_; have HB := n4_; clear n0_ n1_ n2_ n3_ n4_; obtain ⟨hcz54_0, hcz54_1, hcz54_2, hcz54_3, hcz54_4, hcz54_5⟩ := blkz6 BK0.out; have hfz54_0 := blkf BK0.out) | ((with_reducible refine gate_store (t := 3) (p := 78) rfl ?_); (try (rw [drewN_self w53]; generalize hq_ : World.drewN w53 _ = w53; have n0_ := Aside0.mk (Kd.R_at hq_ HO0_0.out); have n1_ := Aside0.mk (blk_at hq_ BK0.out); have n2_ := Aside0.mk (blk_at hq_ BK222.out); have n3_ := Aside0.mk (kept_at hq_ HK.out); have n4_ := Aside0.mk (below_at hq_ HB.out); clear hq_ HO0_0 BK0 BK222 HK HB; have HO0_0 := n0_; have BK0 := n1_; have BK222 := n2_; have HK := n3_; have HB := n4_; clear n0_ n1_ n2_ n3_ n4_)); refine store_event (t := 3) (p := 78) (v := ?vo_w55) (w1 := (w53.setCell ⟨g, 5, none⟩ (.int .i64 0))) ?hg ?ho ?hn ?hr ?_; (case ho => rfl); (case hg => rfl); (case hn => rfl); (case hr => first | (go_simp; done) | (go_simp; rfl)); intro w55 hw; have n0_ : Aside0 (Kd.R (Kd.int .i64) 3 w55 w0.heap.size (fun k_ => (P0_0_ k_ ∨ w.heap.size ≤ k_)) u9000_ l0_0) := ⟨(by rw [hw]; exact (by exact (Kd.R_farN HO0_0.out BK0.out)))⟩; have n1_ : Aside0 (w55.heap[g]? = some (.cells #[u9000_, .int .i64 a0_1, .int .i64 a0_2, .int .i64 0, .int .i64 0, .int .i64 0] 90 (0, 0))) := ⟨(by rw [hw]; exact (by (with_reducible repeat (first | refine blk_drewN ?_ _ | refine blk_drew ?_ | refine blk_alloc ?_ _)); refine blk_put (cs := #[u9000_, .int .i64 a0_1, .int .i64 a0_2, .int .i64 0, .int .i64 0, .int .i64 (wrap64 (a0_5 + 1))]) ?_ 5 _ rfl; (with_reducible repeat (first | refine blk_drewN ?_ _ | refine blk_drew ?_ | refine blk_alloc ?_ _)); exact BK0.out))⟩; have n2_ : Aside0 (w55.heap[gb222]? = some (.cells #[.int .i64 a1_0, .slice A1_1 l1_1.length c1_1] 41 (0, 0))) := ⟨(by rw [hw]; exact (by exact blk_kb BK222.out NB222_0.out))⟩; have n3_ : Aside0 (Kept w w55 (fun k_ => (P0_0_ k_) ∨ k_ = g)) := ⟨(by rw [hw]; exact (by exact kpt))⟩; have n4_ : Aside0 (Below w0.heap.size w0 w55) := ⟨(by rw [hw]; exact (by exact bel0))⟩; clear hw; clear HO0_0; clear BK0; clear BK222; clear HK; clear HB; have HO0_0 := n0_; have BK0 := n1_; have BK222 := n2_; have HK := n3_; have HB := n4_; clear n0_ n1_ n2_ n3_ n4_))
        repeat (go_quiet (fail); try go_wp2_with (first | ((with_reducible refine gate_dst (N := 3) rfl ?_); refine box_event ?hg (N := 3) ?hd (cs := #[.int .i64 a1_0, .slice A1_1 l1_1.length c1_1]) (t := 41) ?hr ?_; (case hd => rfl); (case hg => rfl); (case hr => first | (go_simp; done) | (go_simp; rfl)); intro gb222 hg w46 hbox hb; have n_ := an (Kd.R_below (by exact Kd.R_nw HO0_0.out) hb) (an (blk_below (blk_nw BK0.out) hb) (an (Kept.below (S := (fun k_ => (P0_0_ k_) ∨ k_ = g)) (by exact kpt) hb) (an (below_step (by exact bel0) hb) (an (hbox) (an ((by rw [hg]; exact (by first | exact HK.out.1 | exact (show Kept w _ (fun k_ => (P0_0_ k_) ∨ k_ = g) from by exact kpt).1) : w.heap.size ≤ gb222)) (an ((by rw [hg]; exact (below_size (by exact bel0)) : w0.heap.size ≤ gb222)) (an ((by rw [hg]; exact Nat.ne_of_lt (blk_lt (blk_nw BK0.out)) : g ≠ gb222)) (an ((by rw [hg]; exact Nat.ne_of_gt (blk_lt (blk_nw BK0.out)) : gb222 ≠ g)) (trivial))))))))); clear HO0_0 BK0 HK HB; obtain ⟨HO0_0, BK0, HK, HB, BK222, GW222, GE222, NB0_222, NB222_0, -⟩ := n_; clear hb hbox hg; have hnb47 := NB0_222.out; have hnc47 := NB222_0.out; obtain ⟨hcz48_0, hcz48_1, hcz48_2, hcz48_3, hcz48_4, hcz48_5⟩ := blkz6 BK0.out; have hfz48_0 := blkf BK0.out) | ((with_reducible refine gate_store (t := 3) (p := 60) rfl ?_); (try (rw [drewN_self w46]; generalize hq_ : World.drewN w46 _ = w46; have n0_ := Aside0.mk (Kd.R_at hq_ HO0_0.out); have n1_ := Aside0.mk (blk_at hq_ BK0.out); have n2_ := Aside0.mk (blk_at hq_ BK222.out); have n3_ := Aside0.mk (kept_at hq_ HK.out); have n4_ := Aside0.mk (below_at hq_ HB.out); clear hq_ HO0_0 BK0 BK222 HK HB; have HO0_0 := n0_; have BK0 := n1_; have BK222 := n2_; have HK := n3_; have HB := n4_; clear n0_ n1_ n2_ n3_ n4_)); refine store_event (t := 3) (p := 60) (v := ?vo_w49) (w1 := (w46.setCell ⟨g, 5, none⟩ (.int .i64 (wrap64 (a0_5 + 1))))) ?hg ?ho ?hn ?hr ?_; (case ho => rfl); (case hg => rfl); (case hn => rfl); (case hr => first | (go_simp; done) | (go_simp; rfl)); intro w49 hw; have n0_ : Aside0 (Kd.R (Kd.int .i64) 3 w49 w0.heap.size (fun k_ => (P0_0_ k_ ∨ w.heap.size ≤ k_)) u9000_ l0_0) := ⟨(by rw [hw]; exact (by exact (Kd.R_farN HO0_0.out BK0.out)))⟩; have n1_ : Aside0 (w49.heap[g]? = some (.cells #[u9000_, .int .i64 a0_1, .int .i64 a0_2, .int .i64 a0_3, .int .i64 a0_4, .int .i64 (wrap64 (a0_5 + 1))] 90 (0, 0))) := ⟨(by rw [hw]; exact (by (with_reducible repeat (first | refine blk_drewN ?_ _ | refine blk_drew ?_ | refine blk_alloc ?_ _)); refine blk_put (cs := #[u9000_, .int .i64 a0_1, .int .i64 a0_2, .int .i64 a0_3, .int .i64 a0_4, .int .i64 a0_5]) ?_ 5 _ rfl; (with_reducible repeat (first | refine blk_drewN ?_ _ | refine blk_drew ?_ | refine blk_alloc ?_ _)); exact BK0.out))⟩; have n2_ : Aside0 (w49.heap[gb222]? = some (.cells #[.int .i64 a1_0, .slice A1_1 l1_1.length c1_1] 41 (0, 0))) := ⟨(by rw [hw]; exact (by exact blk_kb BK222.out NB222_0.out))⟩; have n3_ : Aside0 (Kept w w49 (fun k_ => (P0_0_ k_) ∨ k_ = g)) := ⟨(by rw [hw]; exact (by exact kpt))⟩; have n4_ : Aside0 (Below w0.heap.size w0 w49) := ⟨(by rw [hw]; exact (by exact bel0))⟩; clear hw; clear HO0_0; clear BK0; clear BK222; clear HK; clear HB; have HO0_0 := n0_; have BK0 := n1_; have BK222 := n2_; have HK := n3_; have HB := n4_; clear n0_ n1_ n2_ n3_ n4_; obtain ⟨hcz50_0, hcz50_1, hcz50_2, hcz50_3, hcz50_4, hcz50_5⟩ := blkz6 BK0.out; have hfz50_0 := blkf BK0.out) | ((with_reducible refine gate_store (t := 3) (p := 72) rfl ?_); (try (rw [drewN_self w49]; generalize hq_ : World.drewN w49 _ = w49; have n0_ := Aside0.mk (Kd.R_at hq_ HO0_0.out); have n1_ := Aside0.mk (blk_at hq_ BK0.out); have n2_ := Aside0.mk (blk_at hq_ BK222.out); have n3_ := Aside0.mk (kept_at hq_ HK.out); have n4_ := Aside0.mk (below_at hq_ HB.out); clear hq_ HO0_0 BK0 BK222 HK HB; have HO0_0 := n0_; have BK0 := n1_; have BK222 := n2_; have HK := n3_; have HB := n4_; clear n0_ n1_ n2_ n3_ n4_)); refine store_event (t := 3) (p := 72) (v := ?vo_w51) (w1 := (w49.setCell ⟨g, 3, none⟩ (.int .i64 0))) ?hg ?ho ?hn ?hr ?_; (case ho => rfl); (case hg => rfl); (case hn => rfl); (case hr => first | (go_simp; done) | (go_simp; rfl)); intro w51 hw; have n0_ : Aside0 (Kd.R (Kd.int .i64) 3 w51 w0.heap.size (fun k_ => (P0_0_ k_ ∨ w.heap.size ≤ k_)) u9000_ l0_0) := ⟨(by rw [hw]; exact (by exact (Kd.R_farN HO0_0.out BK0.out)))⟩; have n1_ : Aside0 (w51.heap[g]? = some (.cells #[u9000_, .int .i64 a0_1, .int .i64 a0_2, .int .i64 0, .int .i64 a0_4, .int .i64 (wrap64 (a0_5 + 1))] 90 (0, 0))) := ⟨(by rw [hw]; exact (by (with_reducible repeat (first | refine blk_drewN ?_ _ | refine blk_drew ?_ | refine blk_alloc ?_ _)); refine blk_put (cs := #[u9000_, .int .i64 a0_1, .int .i64 a0_2, .int .i64 a0_3, .int .i64 a0_4, .int .i64 (wrap64 (a0_5 + 1))]) ?_ 3 _ rfl; (with_reducible repeat (first | refine blk_drewN ?_ _ | refine blk_drew ?_ | refine blk_alloc ?_ _)); exact BK0.out))⟩; have n2_ : Aside0 (w51.heap[gb222]? = some (.cells #[.int .i64 a1_0, .slice A1_1 l1_1.length c1_1] 41 (0, 0))) := ⟨(by rw [hw]; exact (by exact blk_kb BK222.out NB222_0.out))⟩; have n3_ : Aside0 (Kept w w51 (fun k_ => (P0_0_ k_) ∨ k_ = g)) := ⟨(by rw [hw]; exact (by exact kpt))⟩; have n4_ : Aside0 (Below w0.heap.size w0 w51) := ⟨(by rw [hw]; exact (by exact bel0))⟩; clear hw; clear HO0_0; clear BK0; clear BK222; clear HK; clear HB; have HO0_0 := n0_; have BK0 := n1_; have BK222 := n2_; have HK := n3_; have HB := n4_; clear n0_ n1_ n2_ n3_ n4_; obtain ⟨hcz52_0, hcz52_1, hcz52_2, hcz52_3, hcz52_4, hcz52_5⟩ := blkz6 BK0.out; have hfz52_0 := blkf BK0.out) | ((with_reducible refine gate_store (t := 3) (p := 75) rfl ?_); (try (rw [drewN_self w51]; generalize hq_ : World.drewN w51 _ = w51; have n0_ := Aside0.mk (Kd.R_at hq_ HO0_0.out); have n1_ := Aside0.mk (blk_at hq_ BK0.out); have n2_ := Aside0.mk (blk_at hq_ BK222.out); have n3_ := Aside0.mk (kept_at hq_ HK.out); have n4_ := Aside0.mk (below_at hq_ HB.out); clear hq_ HO0_0 BK0 BK222 HK HB; have HO0_0 := n0_; have BK0 := n1_; have BK222 := n2_; have HK := n3_; have HB := n4_; clear n0_ n1_ n2_ n3_ n4_)); refine store_event (t := 3) (p := 75) (v := ?vo_w53) (w1 := (w51.setCell ⟨g, 4, none⟩ (.int .i64 0))) ?hg ?ho ?hn ?hr ?_; (case ho => rfl); (case hg => rfl); (case hn => rfl); (case hr => first | (go_simp; done) | (go_simp; rfl)); intro w53 hw; have n0_ : Aside0 (Kd.R (Kd.int .i64) 3 w53 w0.heap.size (fun k_ => (P0_0_ k_ ∨ w.heap.size ≤ k_)) u9000_ l0_0) := ⟨(by rw [hw]; exact (by exact (Kd.R_farN HO0_0.out BK0.out)))⟩; have n1_ : Aside0 (w53.heap[g]? = some (.cells #[u9000_, .int .i64 a0_1, .int .i64 a0_2, .int .i64 0, .int .i64 0, .int .i64 (wrap64 (a0_5 + 1))] 90 (0, 0))) := ⟨(by rw [hw]; exact (by (with_reducible repeat (first | refine blk_drewN ?_ _ | refine blk_drew ?_ | refine blk_alloc ?_ _)); refine blk_put (cs := #[u9000_, .int .i64 a0_1, .int .i64 a0_2, .int .i64 0, .int .i64 a0_4, .int .i64 (wrap64 (a0_5 + 1))]) ?_ 4 _ rfl; (with_reducible repeat (first | refine blk_drewN ?_ _ | refine blk_drew ?_ | refine blk_alloc ?_ _)); exact BK0.out))⟩; have n2_ : Aside0 (w53.heap[gb222]? = some (.cells #[.int .i64 a1_0, .slice A1_1 l1_1.length c1_1] 41 (0, 0))) := ⟨(by rw [hw]; exact (by exact blk_kb BK222.out NB222_0.out))⟩; have n3_ : Aside0 (Kept w w53 (fun k_ => (P0_0_ k_) ∨ k_ = g)) := ⟨(by rw [hw]; exact (by exact kpt))⟩; have n4_ : Aside0 (Below w0.heap.size w0 w53) := ⟨(by rw [hw]; exact (by exact bel0))⟩; clear hw; clear HO0_0; clear BK0; clear BK222; clear HK; clear HB; have HO0_0 := n0_; have BK0 := n1_; have BK222 := n2_; have HK := n3_; have HB := n4_; clear n0_ n1_ n2_ n3_ n4_; obtain ⟨hcz54_0, hcz54_1, hcz54_2, hcz54_3, hcz54_4, hcz54_5⟩ := blkz6 BK0.out; have hfz54_0 := blkf BK0.out) | ((with_reducible refine gate_store (t := 3) (p := 78) rfl ?_); (try (rw [drewN_self w53]; generalize hq_ : World.drewN w53 _ = w53; have n0_ := Aside0.mk (Kd.R_at hq_ HO0_0.out); have n1_ := Aside0.mk (blk_at hq_ BK0.out); have n2_ := Aside0.mk (blk_at hq_ BK222.out); have n3_ := Aside0.mk (kept_at hq_ HK.out); have n4_ := Aside0.mk (below_at hq_ HB.out); clear hq_ HO0_0 BK0 BK222 HK HB; have HO0_0 := n0_; have BK0 := n1_; have BK222 := n2_; have HK := n3_; have HB := n4_; clear n0_ n1_ n2_ n3_ n4_)); refine store_event (t := 3) (p := 78) (v := ?vo_w55) (w1 := (w53.setCell ⟨g, 5, none⟩ (.int .i64 0))) ?hg ?ho ?hn ?hr ?_; (case ho => rfl); (case hg => rfl); (case hn => rfl); (case hr => first | (go_simp; done) | (go_simp; rfl)); intro w55 hw; have n0_ : Aside0 (Kd.R (Kd.int .i64) 3 w55 w0.heap.size (fun k_ => (P0_0_ k_ ∨ w.heap.size ≤ k_)) u9000_ l0_0) := ⟨(by rw [hw]; exact (by exact (Kd.R_farN HO0_0.out BK0.out)))⟩; have n1_ : Aside0 (w55.heap[g]? = some (.cells #[u9000_, .int .i64 a0_1, .int .i64 a0_2, .int .i64 0, .int .i64 0, .int .i64 0] 90 (0, 0))) := ⟨(by rw [hw]; exact (by (with_reducible repeat (first | refine blk_drewN ?_ _ | refine blk_drew ?_ | refine blk_alloc ?_ _)); refine blk_put (cs := #[u9000_, .int .i64 a0_1, .int .i64 a0_2, .int .i64 0, .int .i64 0, .int .i64 (wrap64 (a0_5 + 1))]) ?_ 5 _ rfl; (with_reducible repeat (first | refine blk_drewN ?_ _ | refine blk_drew ?_ | refine blk_alloc ?_ _)); exact BK0.out))⟩; have n2_ : Aside0 (w55.heap[gb222]? = some (.cells #[.int .i64 a1_0, .slice A1_1 l1_1.length c1_1] 41 (0, 0))) := ⟨(by rw [hw]; exact (by exact blk_kb BK222.out NB222_0.out))⟩; have n3_ : Aside0 (Kept w w55 (fun k_ => (P0_0_ k_) ∨ k_ = g)) := ⟨(by rw [hw]; exact (by exact kpt))⟩; have n4_ : Aside0 (Below w0.heap.size w0 w55) := ⟨(by rw [hw]; exact (by exact bel0))⟩; clear hw; clear HO0_0; clear BK0; clear BK222; clear HK; clear HB; have HO0_0 := n0_; have BK0 := n1_; have BK222 := n2_; have HK := n3_; have HB := n4_; clear n0_ n1_ n2_ n3_ n4_)))
        go_ret2
        exact ⟨by first | rfl | (simp [errW_none, errW_some] <;> rfl) | (simp [*, errW_none, errW_some] <;> rfl), (u9000_), by exact Kd.R_nw HO0_0.out, by exact blk_nw BK0.out, by exact bel0, by exact kpt⟩

/-! ### spec_ProbeTick: function 65 -/
def spec_ProbeTick.j0 : Nat → Bool → List Int → Int → Int → Int → Int → Int → Int → List (S82) → Option (List Int × Int × Int × Int × Int × Int × Int × Int)
  | 0, _, _, _, _, _, _, _, _, _ => none
  | k + 1, x17, x233000, x233001, x233002, x233003, x233004, x233005, x234000, x234001 => if x17 = true then (some (([] : List Int), 0, 0, 0, 0, 0, 0, 0)) else ((spec_l11own.f x233000 x233001 x233002 x233003 x233004 x233005).bind fun bt237 => ((spec_l11tick.f k bt237.1 bt237.2.1 bt237.2.2.1 bt237.2.2.2.1 bt237.2.2.2.2.1 bt237.2.2.2.2.2 x234000 x234001).bind fun bt246 => (some (bt246.2.2.1, bt246.2.2.2.1, bt246.2.2.2.2.1, bt246.2.2.2.2.2.1, bt246.2.2.2.2.2.2.1, bt246.2.2.2.2.2.2.2, bt246.1, bt246.2.1))))
def spec_ProbeTick.f (k : Nat) (l0_0 : List Int) (a0_1 : Int) (a0_2 : Int) (a0_3 : Int) (a0_4 : Int) (a0_5 : Int) (a1_0 : Int) (l1_1 : List (S82)) : Option (List Int × Int × Int × Int × Int × Int × Int × Int) := (spec_ProberOk.f k l0_0 a0_1 a0_2 a0_3 a0_4 a0_5).bind fun t235 => (if t235 = true then ((spec_TableOk.f k a1_0 l1_1).bind fun t236 => (spec_ProbeTick.j0 k (!t236) l0_0 a0_1 a0_2 a0_3 a0_4 a0_5 a1_0 l1_1)) else (spec_ProbeTick.j0 k true l0_0 a0_1 a0_2 a0_3 a0_4 a0_5 a1_0 l1_1))
theorem spec_ProbeTick.mono_l : ∀ k, (∀ y0 y1 y2 y3 y4 y5 y6 y7 y8, LeO (spec_ProbeTick.j0 k y0 y1 y2 y3 y4 y5 y6 y7 y8) (spec_ProbeTick.j0 (k + 1) y0 y1 y2 y3 y4 y5 y6 y7 y8))
  | 0 => fun _ _ _ _ _ _ _ _ _ r h => by simp [spec_ProbeTick.j0] at h
  | k + 1 => by
    have ih0 := spec_ProbeTick.mono_l k
    · intro y0 y1 y2 y3 y4 y5 y6 y7 y8
      unfold spec_ProbeTick.j0
      repeat' first
      | (with_reducible exact ih0 _ _ _ _ _ _ _ _ _)
      | (with_reducible exact spec_ProberOk.mono _ _ _ _ _ _ _)
      | (with_reducible exact spec_TableOk.mono _ _ _)
      | (with_reducible exact spec_l11tick.mono _ _ _ _ _ _ _ _ _)
      | (with_reducible exact LeO.refl _)
      | (with_reducible exact LeO.none _)
      | (with_reducible refine LeO.ite ?_ ?_)
      | (with_reducible refine LeO.bind ?_ (fun _ => ?_))
      | exact ih0 _ _ _ _ _ _ _ _ _
      | exact spec_ProberOk.mono _ _ _ _ _ _ _
      | exact spec_TableOk.mono _ _ _
      | exact spec_l11tick.mono _ _ _ _ _ _ _ _ _
      | exact LeO.none _
      | refine LeO.ite ?_ ?_
      | refine LeO.bind ?_ (fun _ => ?_)
theorem spec_ProbeTick.mono : ∀ a0 a1 a2 a3 a4 a5 a6 a7 k, LeO (spec_ProbeTick.f k a0 a1 a2 a3 a4 a5 a6 a7) (spec_ProbeTick.f (k + 1) a0 a1 a2 a3 a4 a5 a6 a7) := by
  intro a0 a1 a2 a3 a4 a5 a6 a7 k
  have ih0 := spec_ProbeTick.mono_l k
  unfold spec_ProbeTick.f
  repeat' first
      | (with_reducible exact ih0 _ _ _ _ _ _ _ _ _)
      | (with_reducible exact spec_ProberOk.mono _ _ _ _ _ _ _)
      | (with_reducible exact spec_TableOk.mono _ _ _)
      | (with_reducible exact spec_l11tick.mono _ _ _ _ _ _ _ _ _)
      | (with_reducible exact LeO.refl _)
      | (with_reducible exact LeO.none _)
      | (with_reducible refine LeO.ite ?_ ?_)
      | (with_reducible refine LeO.bind ?_ (fun _ => ?_))
      | exact ih0 _ _ _ _ _ _ _ _ _
      | exact spec_ProberOk.mono _ _ _ _ _ _ _
      | exact spec_TableOk.mono _ _ _
      | exact spec_l11tick.mono _ _ _ _ _ _ _ _ _
      | exact LeO.none _
      | refine LeO.ite ?_ ?_
      | refine LeO.bind ?_ (fun _ => ?_)
set_option maxHeartbeats 8000000 in
set_option maxRecDepth 100000 in
theorem spec_ProbeTick.calls (k : Nat) (A0_0 : Option Addr) (c0_0 : Nat) (l0_0 : List Int) (a0_1 : Int) (a0_2 : Int) (a0_3 : Int) (a0_4 : Int) (a0_5 : Int) (a1_0 : Int) (A1_1 : Option Addr) (c1_1 : Nat) (l1_1 : List (S82)) (r1 : List Int) (r2 : Int) (r3 : Int) (r4 : Int) (r5 : Int) (r6 : Int) (r7 : Int) (r8 : Int) (w : World) (hr0_0 : Kd.C (Kd.int .i64) w A0_0 l0_0.length l0_0) (hc0_0 : l0_0.length ≤ c0_0) (hr1_1 : Kd.C k82 w A1_1 l1_1.length l1_1) (hc1_1 : l1_1.length ≤ c1_1) (h : spec_ProbeTick.f k l0_0 a0_1 a0_2 a0_3 a0_4 a0_5 a1_0 l1_1 = some (r1, r2, r3, r4, r5, r6, r7, r8)) :
    Calls Try.prog 65 #[.agg #[.slice A0_0 l0_0.length c0_0, .int .i64 a0_1, .int .i64 a0_2, .int .i64 a0_3, .int .i64 a0_4, .int .i64 a0_5], .agg #[.int .i64 a1_0, .slice A1_1 l1_1.length c1_1]] w fun e w' => ∃ v0_ : Value, e = .returned (.tuple #[.agg #[v0_, .int .i64 r2, .int .i64 r3, .int .i64 r4, .int .i64 r5, .int .i64 r6], .int .i64 r7, .int .i64 r8]) ∧ Kd.R (Kd.int .i64) 3 w' w.heap.size (fun _ => True) v0_ r1 ∧ Below w.heap.size w w' := by
  have hu90 := Try.underlying90
  have hu41 := Try.underlying41
  have HR0_0 := Aside0.mk hr0_0
  have HC0_0 := Aside0.mk hc0_0
  clear hr0_0 hc0_0
  have HR1_1 := Aside0.mk hr1_1
  have HC1_1 := Aside0.mk hc1_1
  clear hr1_1 hc1_1
  have HB := Aside0.mk (Below.refl w.heap.size w)
  have H : ((spec_ProberOk.f k l0_0 a0_1 a0_2 a0_3 a0_4 a0_5).bind fun t235 => (if t235 = true then ((spec_TableOk.f k a1_0 l1_1).bind fun t236 => (spec_ProbeTick.j0 k (!t236) l0_0 a0_1 a0_2 a0_3 a0_4 a0_5 a1_0 l1_1)) else (spec_ProbeTick.j0 k true l0_0 a0_1 a0_2 a0_3 a0_4 a0_5 a1_0 l1_1))) = some (r1, r2, r3, r4, r5, r6, r7, r8) := h
  clear h
  have HC3 := Aside0.mk H
  clear H
  go_enter Try.func65, Try.ntmps65
  go_upto_region 1 with (first | ((with_reducible refine gate_dst (N := 2) rfl ?_); refine box_event ?hg (N := 2) ?hd (cs := #[.slice A0_0 l0_0.length c0_0, .int .i64 a0_1, .int .i64 a0_2, .int .i64 a0_3, .int .i64 a0_4, .int .i64 a0_5]) (t := 90) ?hr ?_; (case hd => rfl); (case hg => rfl); (case hr => first | (go_simp; done) | (go_simp; rfl)); intro gb232 hg w4 hbox hb; have n_ := an (below_step (by exact bel0) hb) (an (hbox) (an ((by rw [hg]; exact (below_size (by exact bel0)) : w.heap.size ≤ gb232)) (an ((by rw [hg]; exact (below_size (by exact bel0)) : w.heap.size ≤ gb232)) (trivial)))); clear HB; obtain ⟨HB, BK232, GW232, GE232, -⟩ := n_; clear hb hbox hg) | ((with_reducible refine gate_dst (N := 3) rfl ?_); refine box_event ?hg (N := 3) ?hd (cs := #[.int .i64 a1_0, .slice A1_1 l1_1.length c1_1]) (t := 41) ?hr ?_; (case hd => rfl); (case hg => rfl); (case hr => first | (go_simp; done) | (go_simp; rfl)); intro gb233 hg w5 hbox hb; have n_ := an (blk_below (blk_nw BK232.out) hb) (an (below_step (by exact bel0) hb) (an (hbox) (an ((by rw [hg]; exact (below_size (by exact bel0)) : w.heap.size ≤ gb233)) (an ((by rw [hg]; exact (below_size (by exact bel0)) : w.heap.size ≤ gb233)) (an ((by rw [hg]; exact Nat.ne_of_lt (blk_lt (blk_nw BK232.out)) : gb232 ≠ gb233)) (an ((by rw [hg]; exact Nat.ne_of_gt (blk_lt (blk_nw BK232.out)) : gb233 ≠ gb232)) (trivial))))))); clear BK232 HB; obtain ⟨BK232, HB, BK233, GW233, GE233, NB232_233, NB233_232, -⟩ := n_; clear hb hbox hg) | ((with_reducible refine gate_dst (N := 4) rfl ?_); refine box_event ?hg (N := 4) ?hd (cs := #[.slice none 0 0, .int .i64 0, .int .i64 0, .int .i64 0, .int .i64 0, .int .i64 0]) (t := 90) ?hr ?_; (case hd => rfl); (case hg => rfl); (case hr => first | (go_simp; done) | (go_simp; rfl)); intro gb234 hg w6 hbox hb; have n_ := an (blk_below (blk_nw BK232.out) hb) (an (blk_below (blk_nw BK233.out) hb) (an (below_step (by exact bel0) hb) (an (hbox) (an ((by rw [hg]; exact (below_size (by exact bel0)) : w.heap.size ≤ gb234)) (an ((by rw [hg]; exact (below_size (by exact bel0)) : w.heap.size ≤ gb234)) (an ((by rw [hg]; exact Nat.ne_of_lt (blk_lt (blk_nw BK232.out)) : gb232 ≠ gb234)) (an ((by rw [hg]; exact Nat.ne_of_gt (blk_lt (blk_nw BK232.out)) : gb234 ≠ gb232)) (an ((by rw [hg]; exact Nat.ne_of_lt (blk_lt (blk_nw BK233.out)) : gb233 ≠ gb234)) (an ((by rw [hg]; exact Nat.ne_of_gt (blk_lt (blk_nw BK233.out)) : gb234 ≠ gb233)) (trivial)))))))))); clear BK232 BK233 HB; obtain ⟨BK232, BK233, HB, BK234, GW234, GE234, NB232_234, NB234_232, NB233_234, NB234_233, -⟩ := n_; clear hb hbox hg))
  (try simp only [Act.put, List.setIfInBounds_toArray, List.set_cons_zero, List.set_cons_succ])
  go_cut [17] (fun v17 wc => ∃ (kq : Nat) (x17_2 : Bool), v17 = .bool x17_2 ∧ Aside0 (spec_ProbeTick.j0 kq x17_2 l0_0 a0_1 a0_2 a0_3 a0_4 a0_5 a1_0 l1_1 = some (r1, r2, r3, r4, r5, r6, r7, r8)) ∧ Aside0 (kq ≤ k) ∧ Aside0 (wc.heap[gb232]? = some (.cells #[(.slice A0_0 l0_0.length c0_0), .int .i64 a0_1, .int .i64 a0_2, .int .i64 a0_3, .int .i64 a0_4, .int .i64 a0_5] 90 (0, 0))) ∧ Aside0 (wc.heap[gb233]? = some (.cells #[.int .i64 a1_0, (.slice A1_1 l1_1.length c1_1)] 41 (0, 0))) ∧ Aside0 (wc.heap[gb234]? = some (.cells #[(.slice none 0 0), .int .i64 0, .int .i64 0, .int .i64 0, .int .i64 0, .int .i64 0] 90 (0, 0))) ∧ Aside0 (Below w.heap.size w wc))
  case first =>
    have H := HC3.out
    clear HC3
    replace H := Option.bind_eq_some_iff.mp H
    obtain ⟨t235, A70, H⟩ := H
    have A7 := Aside0.mk A70
    clear A70
    have hnb8 := NB232_233.out
    have hnc8 := NB233_232.out
    have hnb9 := NB232_234.out
    have hnc9 := NB234_232.out
    obtain ⟨hcz10_0, hcz10_1, hcz10_2, hcz10_3, hcz10_4, hcz10_5⟩ := blkz6 BK232.out
    have hfz10_0 := blkf BK232.out
    replace H := Aside0.mk H
    go_wp2_with (first | ((with_reducible refine gate_callee (f := 118) rfl ?_); refine goesL_ (some 11) rfl rfl Try.func118 (by kernel_rfl) rfl #[.agg #[.slice A0_0 l0_0.length c0_0, .int .i64 a0_1, .int .i64 a0_2, .int .i64 a0_3, .int .i64 a0_4, .int .i64 a0_5]] rfl (by (try simp only [List.map_toArray, List.map_cons, List.map_nil]); first | done | rfl | (simp only [List.length_drop, List.length_take]; rfl)) ?_; (with_reducible refine (spec_ProberOk.calls k _ _ l0_0 a0_1 a0_2 a0_3 a0_4 a0_5 t235 _ ?side1 ?side2 A7.out).mono ?_); (case side1 => repeat (first | exact (Kd.C_below HR0_0.out HB.out) | (with_reducible refine Kd.C_alloc ?_ _) | (with_reducible refine Kd.C_drewN ?_ _) | (with_reducible refine Kd.C_drew ?_))); (case side2 => exact HC0_0.out); rintro e w11 ⟨rfl, hb⟩; refine ⟨_, rfl, ?_⟩; have n_ := an (blk_below (blk_nw BK232.out) hb) (an (blk_below (blk_nw BK233.out) hb) (an (blk_below (blk_nw BK234.out) hb) (an (below_step (by exact bel0) hb) (trivial)))); clear BK232 BK233 BK234 HB; obtain ⟨BK232, BK233, BK234, HB, -⟩ := n_; (try clear hb); (try clear hb2); (try clear hk); (try clear hi); refine Stop.out ?_))
    refine Stop.mk ?_
    replace H := H.out
    by_cases c12 : t235 = true
    · subst c12
      rw [if_pos rfl] at H
      replace H := Option.bind_eq_some_iff.mp H
      obtain ⟨t236, A130, H⟩ := H
      have A13 := Aside0.mk A130
      clear A130
      have H' := Aside0.mk H
      clear H
      have hnb14 := NB233_232.out
      have hnc14 := NB232_233.out
      have hnb15 := NB233_234.out
      have hnc15 := NB234_233.out
      obtain ⟨hcz16_0, hcz16_1⟩ := blkz2 BK233.out
      have hfz16_0 := blkf BK233.out
      go_wp2_with (first | (go_at_call 77; (with_reducible refine (spec_TableOk.calls k a1_0 _ _ l1_1 t236 _ ?side1 ?side2 A13.out).mono ?_); (case side1 => repeat (first | exact (Kd.C_below HR1_1.out HB.out) | (with_reducible refine Kd.C_alloc ?_ _) | (with_reducible refine Kd.C_drewN ?_ _) | (with_reducible refine Kd.C_drew ?_))); (case side2 => exact HC1_1.out); rintro e w17 ⟨rfl, hb⟩; have n_ := an (blk_below (blk_nw BK232.out) hb) (an (blk_below (blk_nw BK233.out) hb) (an (blk_below (blk_nw BK234.out) hb) (an (below_step (by exact bel0) hb) (trivial)))); clear BK232 BK233 BK234 HB; obtain ⟨BK232, BK233, BK234, HB, -⟩ := n_; (try clear hb); (try clear hb2); (try clear hk); (try clear hi)))
      go_meet
      case rel => exact ⟨_, (!t236), (by first | rfl | (simp; done) | (simp [*]; done)), H', ⟨by first | omega | exact Nat.le_refl _⟩, ⟨by exact blk_nw BK232.out⟩, ⟨by exact blk_nw BK233.out⟩, ⟨by exact blk_nw BK234.out⟩, ⟨by exact bel0⟩⟩
    · replace c12 := Bool.eq_false_iff.mpr c12
      subst c12
      rw [if_neg (show ¬ (false = true) by decide)] at H
      have H' := Aside0.mk H
      clear H
      go_wp2
      go_meet
      case rel => exact ⟨_, (true), (by first | rfl | (simp; done) | (simp [*]; done)), H', ⟨by first | omega | exact Nat.le_refl _⟩, ⟨by exact blk_nw BK232.out⟩, ⟨by exact blk_nw BK233.out⟩, ⟨by exact blk_nw BK234.out⟩, ⟨by exact bel0⟩⟩
  case rest =>
    clear HC3
    try clear c1
    try clear p2
    try clear c6
    try clear c8
    try clear c9
    try clear c11
    try clear c12
    try clear c14
    try clear c15
    try clear hcz10_0
    try clear hcz10_1
    try clear hcz10_2
    try clear hcz10_3
    try clear hcz10_4
    try clear hcz10_5
    try clear hcz16_0
    try clear hcz16_1
    try clear hfz10_0
    try clear hfz10_1
    try clear hfz10_2
    try clear hfz10_3
    try clear hfz10_4
    try clear hfz10_5
    try clear hfz16_0
    try clear hfz16_1
    obtain ⟨kq, x17_2, rfl, HA, HJ2, BK232, BK233, BK234, HB⟩ := hcut
    cases kq with
    | zero => exact absurd HA.out (by simp [spec_ProbeTick.j0])
    | succ kj2 =>
      have H := HA.out
      clear HA
      simp only [spec_ProbeTick.j0] at H
      by_cases c18 : x17_2 = true
      · subst c18
        rw [if_pos rfl] at H
        simp only [Option.some.injEq, Prod.mk.injEq] at H
        obtain ⟨rfl, rfl, rfl, rfl, rfl, rfl, rfl, rfl⟩ := H
        have hnb19 := NB234_232.out
        have hnc19 := NB232_234.out
        have hnb20 := NB234_233.out
        have hnc20 := NB233_234.out
        obtain ⟨hcz21_0, hcz21_1, hcz21_2, hcz21_3, hcz21_4, hcz21_5⟩ := blkz6 BK234.out
        have hfz21_0 := blkf BK234.out
        go_wp2_with (first | ((with_reducible refine gate_store (t := 90) (p := 4) rfl ?_); refine store_event (t := 90) (p := 4) (v := ?vo_w22) (w1 := ((((((wc.setCell ⟨gb234, 0, none⟩ (.slice none 0 0)).setCell ⟨gb234, 1, none⟩ (.int .i64 0)).setCell ⟨gb234, 2, none⟩ (.int .i64 0)).setCell ⟨gb234, 3, none⟩ (.int .i64 0)).setCell ⟨gb234, 4, none⟩ (.int .i64 0)).setCell ⟨gb234, 5, none⟩ (.int .i64 0))) ?hg ?ho ?hn ?hr ?_; (case ho => rfl); (case hg => rfl); (case hn => rfl); (case hr => first | (go_simp; done) | (go_simp; rfl)); intro w22 hw; have n0_ : Aside0 (w22.heap[gb232]? = some (.cells #[.slice A0_0 l0_0.length c0_0, .int .i64 a0_1, .int .i64 a0_2, .int .i64 a0_3, .int .i64 a0_4, .int .i64 a0_5] 90 (0, 0))) := ⟨(by rw [hw]; exact (by exact blk_kb BK232.out NB232_234.out))⟩; have n1_ : Aside0 (w22.heap[gb233]? = some (.cells #[.int .i64 a1_0, .slice A1_1 l1_1.length c1_1] 41 (0, 0))) := ⟨(by rw [hw]; exact (by exact blk_kb BK233.out NB233_234.out))⟩; have n2_ : Aside0 (w22.heap[gb234]? = some (.cells #[.slice none 0 0, .int .i64 0, .int .i64 0, .int .i64 0, .int .i64 0, .int .i64 0] 90 (0, 0))) := ⟨(by rw [hw]; exact (by (with_reducible repeat (first | refine blk_drewN ?_ _ | refine blk_drew ?_ | refine blk_alloc ?_ _)); exact blk_fill6 BK234.out))⟩; have n3_ : Aside0 (Below w.heap.size w w22) := ⟨(by rw [hw]; exact (by exact bel0))⟩; clear hw; clear BK232; clear BK233; clear BK234; clear HB; have BK232 := n0_; have BK233 := n1_; have BK234 := n2_; have HB := n3_; clear n0_ n1_ n2_ n3_))
        refine bodyPost_ret (results_ctt rfl _ _ gb234 90 #[.slice none 0 0, .int .i64 0, .int .i64 0, .int .i64 0, .int .i64 0, .int .i64 0] (0, 0) _ rfl (by exact blk_nw BK234.out) Try.underlying90 rfl (by kernel_rfl)) rfl ?_
        exact ⟨_, by first | rfl | (simp [errW_none, errW_some] <;> rfl) | (simp [*, errW_none, errW_some] <;> rfl), by first | exact Kd.R_nil _ _ _ _ _ | exact Kd.N_nil _ _ _ _ _ | exact Kd.V_nil _ _ _ _ _ | exact Kd.Q_nil _ _ _ _ _ | exact Kd.S_nil _ _ _ _ _, by exact bel0⟩
      · replace c18 := Bool.eq_false_iff.mpr c18
        subst c18
        rw [if_neg (show ¬ (false = true) by decide)] at H
        replace H := Option.bind_eq_some_iff.mp H
        obtain ⟨⟨t237, t240, t241, t242, t243, t244⟩, A230, H⟩ := H
        replace H : ((spec_l11tick.f kj2 t237 t240 t241 t242 t243 t244 a1_0 l1_1).bind fun bt246 => (some (bt246.2.2.1, bt246.2.2.2.1, bt246.2.2.2.2.1, bt246.2.2.2.2.2.1, bt246.2.2.2.2.2.2.1, bt246.2.2.2.2.2.2.2, bt246.1, bt246.2.1))) = some (r1, r2, r3, r4, r5, r6, r7, r8) := H
        have A23 := Aside0.mk A230
        clear A230
        replace H := Option.bind_eq_some_iff.mp H
        obtain ⟨⟨t246, t247, t248, t251, t252, t253, t254, t255⟩, A240, H⟩ := H
        replace H : (some (t248, t251, t252, t253, t254, t255, t246, t247)) = some (r1, r2, r3, r4, r5, r6, r7, r8) := H
        have A24 := Aside0.mk A240
        clear A240
        simp only [Option.some.injEq, Prod.mk.injEq] at H
        obtain ⟨rfl, rfl, rfl, rfl, rfl, rfl, rfl, rfl⟩ := H
        have hnb25 := NB232_233.out
        have hnc25 := NB233_232.out
        have hnb26 := NB232_234.out
        have hnc26 := NB234_232.out
        obtain ⟨hcz27_0, hcz27_1, hcz27_2, hcz27_3, hcz27_4, hcz27_5⟩ := blkz6 BK232.out
        have hfz27_0 := blkf BK232.out
        go_wp2_with (first | ((with_reducible refine gate_callee (f := 119) rfl ?_); refine goesL_ (some 20) rfl rfl Try.func119 (by kernel_rfl) rfl #[.agg #[.slice A0_0 l0_0.length c0_0, .int .i64 a0_1, .int .i64 a0_2, .int .i64 a0_3, .int .i64 a0_4, .int .i64 a0_5]] rfl (by (try simp only [List.map_toArray, List.map_cons, List.map_nil]); first | done | rfl | (simp only [List.length_drop, List.length_take]; rfl)) ?_; (with_reducible refine (spec_l11own.calls _ _ l0_0 a0_1 a0_2 a0_3 a0_4 a0_5 t237 t240 t241 t242 t243 t244 _ ?side1 ?side2 A23.out).mono ?_); (case side1 => repeat (first | exact (Kd.C_below HR0_0.out HB.out) | (with_reducible refine Kd.C_alloc ?_ _) | (with_reducible refine Kd.C_drewN ?_ _) | (with_reducible refine Kd.C_drew ?_))); (case side2 => exact HC0_0.out); rintro e w28 ⟨v238, rfl, ho0, hb⟩; refine ⟨_, rfl, ?_⟩; have n_ := an (Kd.R_lower ho0 (below_size (by exact bel0))) (an (blk_below (blk_nw BK232.out) hb) (an (blk_below (blk_nw BK233.out) hb) (an (blk_below (blk_nw BK234.out) hb) (an (below_step (by exact bel0) hb) (trivial))))); clear BK232 BK233 BK234 HB; obtain ⟨HO239, BK232, BK233, BK234, HB, -⟩ := n_; (try clear hb); (try clear hb2); (try clear hk); (try clear hi); (try clear ho0)) | ((with_reducible refine gate_dst (N := 7) rfl ?_); refine box_event ?hg (N := 7) ?hd (cs := #[.slice none 0 0, .int .i64 0, .int .i64 0, .int .i64 0, .int .i64 0, .int .i64 0]) (t := 90) ?hr ?_; (case hd => rfl); (case hg => rfl); (case hr => first | (go_simp; done) | (go_simp; rfl)); intro gb245 hg w29 hbox hb; have n_ := an (Kd.R_below (by exact Kd.R_nw HO239.out) hb) (an (blk_below (blk_nw BK232.out) hb) (an (blk_below (blk_nw BK233.out) hb) (an (blk_below (blk_nw BK234.out) hb) (an (below_step (by exact bel0) hb) (an (hbox) (an ((by rw [hg]; exact (below_size (by exact bel0)) : w.heap.size ≤ gb245)) (an ((by rw [hg]; exact (below_size (by exact bel0)) : w.heap.size ≤ gb245)) (an ((by rw [hg]; exact Nat.ne_of_lt (blk_lt (blk_nw BK232.out)) : gb232 ≠ gb245)) (an ((by rw [hg]; exact Nat.ne_of_gt (blk_lt (blk_nw BK232.out)) : gb245 ≠ gb232)) (an ((by rw [hg]; exact Nat.ne_of_lt (blk_lt (blk_nw BK233.out)) : gb233 ≠ gb245)) (an ((by rw [hg]; exact Nat.ne_of_gt (blk_lt (blk_nw BK233.out)) : gb245 ≠ gb233)) (an ((by rw [hg]; exact Nat.ne_of_lt (blk_lt (blk_nw BK234.out)) : gb234 ≠ gb245)) (an ((by rw [hg]; exact Nat.ne_of_gt (blk_lt (blk_nw BK234.out)) : gb245 ≠ gb234)) (trivial)))))))))))))); clear HO239 BK232 BK233 BK234 HB; obtain ⟨HO239, BK232, BK233, BK234, HB, BK245, GW245, GE245, NB232_245, NB245_232, NB233_245, NB245_233, NB234_245, NB245_234, -⟩ := n_; clear hb hbox hg; obtain ⟨Ao30, co30, eo30⟩ := Kd.R_slice HO239.out; subst eo30; have hnb31 := NB245_232.out; have hnc31 := NB232_245.out; have hnb32 := NB245_233.out; have hnc32 := NB233_245.out; have hnb33 := NB245_234.out; have hnc33 := NB234_245.out; obtain ⟨hcz34_0, hcz34_1, hcz34_2, hcz34_3, hcz34_4, hcz34_5⟩ := blkz6 BK245.out; have hfz34_0 := blkf BK245.out) | ((with_reducible refine gate_store (t := 90) (p := 7) rfl ?_); refine store_event (t := 90) (p := 7) (v := ?vo_w35) (w1 := ((((((w29.setCell ⟨gb245, 0, none⟩ (.slice Ao30 t237.length co30)).setCell ⟨gb245, 1, none⟩ (.int .i64 t240)).setCell ⟨gb245, 2, none⟩ (.int .i64 t241)).setCell ⟨gb245, 3, none⟩ (.int .i64 t242)).setCell ⟨gb245, 4, none⟩ (.int .i64 t243)).setCell ⟨gb245, 5, none⟩ (.int .i64 t244))) ?hg ?ho ?hn ?hr ?_; (case ho => rfl); (case hg => rfl); (case hn => rfl); (case hr => first | (go_simp; done) | (go_simp; rfl)); intro w35 hw; have n0_ : Aside0 (Kd.R (Kd.int .i64) 3 w35 w.heap.size (fun _ => True) (.slice Ao30 t237.length co30) t237) := ⟨(by rw [hw]; exact (by exact (Kd.R_farN HO239.out BK245.out)))⟩; have n1_ : Aside0 (w35.heap[gb232]? = some (.cells #[.slice A0_0 l0_0.length c0_0, .int .i64 a0_1, .int .i64 a0_2, .int .i64 a0_3, .int .i64 a0_4, .int .i64 a0_5] 90 (0, 0))) := ⟨(by rw [hw]; exact (by exact blk_kb BK232.out NB232_245.out))⟩; have n2_ : Aside0 (w35.heap[gb233]? = some (.cells #[.int .i64 a1_0, .slice A1_1 l1_1.length c1_1] 41 (0, 0))) := ⟨(by rw [hw]; exact (by exact blk_kb BK233.out NB233_245.out))⟩; have n3_ : Aside0 (w35.heap[gb234]? = some (.cells #[.slice none 0 0, .int .i64 0, .int .i64 0, .int .i64 0, .int .i64 0, .int .i64 0] 90 (0, 0))) := ⟨(by rw [hw]; exact (by exact blk_kb BK234.out NB234_245.out))⟩; have n4_ : Aside0 (w35.heap[gb245]? = some (.cells #[.slice Ao30 t237.length co30, .int .i64 t240, .int .i64 t241, .int .i64 t242, .int .i64 t243, .int .i64 t244] 90 (0, 0))) := ⟨(by rw [hw]; exact (by (with_reducible repeat (first | refine blk_drewN ?_ _ | refine blk_drew ?_ | refine blk_alloc ?_ _)); exact blk_fill6 BK245.out))⟩; have n5_ : Aside0 (Below w.heap.size w w35) := ⟨(by rw [hw]; exact (by exact bel0))⟩; clear hw; clear HO239; clear BK232; clear BK233; clear BK234; clear BK245; clear HB; have HO239 := n0_; have BK232 := n1_; have BK233 := n2_; have BK234 := n3_; have BK245 := n4_; have HB := n5_; clear n0_ n1_ n2_ n3_ n4_ n5_; have hnb36 := NB233_234.out; have hnc36 := NB234_233.out; obtain ⟨hcz37_0, hcz37_1⟩ := blkz2 BK233.out; have hfz37_0 := blkf BK233.out) | ((with_reducible refine gate_callee (f := 127) rfl ?_); refine goesL_ (some 23) rfl rfl Try.func127 (by kernel_rfl) rfl #[.pointer (some ⟨gb245, 0, none⟩), .agg #[.int .i64 a1_0, .slice A1_1 l1_1.length c1_1]] rfl (by (try simp only [List.map_toArray, List.map_cons, List.map_nil]); first | done | rfl | (simp only [List.length_drop, List.length_take]; rfl)) ?_; (with_reducible refine (spec_l11tick.calls kj2 gb245 (fun k_ => some k_ = (.slice Ao30 t237.length co30 : Value).ownBlock) (.slice Ao30 t237.length co30) t237 t240 t241 t242 t243 t244 a1_0 _ _ l1_1 t246 t247 t248 t251 t252 t253 t254 t255 w _ ?side1 ?side2 ?side3 ?side4 ?side5 ?side6 A24.out).mono ?_); (case side1 => exact bel0); (case side2 => exact blk_nw BK245.out); (case side3 => exact GE245.out); (case side4 => exact Kd.R_tight rfl HO239.out); (case side5 => exact Kd.C_kept_came k82_heap HR1_1.out (by exact bel0) (fun k_ hs_ => Or.elim hs_ (fun hs_ => (fun e_ => Kd.R_base HO239.out k_ e_.symm) hs_) (fun e_ => (by rw [e_]; exact GE245.out)))); (case side6 => exact HC1_1.out); rintro e w38 ⟨rfl, v249, ho0, hi, hb, hkp⟩; refine ⟨_, rfl, ?_⟩; have n_ := an (blk_kept (by exact blk_nw BK232.out) hkp (fun hs_ => Or.elim hs_ (fun hs_ => (fun e_ => (Kd.R_ne HO239.out BK232.out (by decide)) e_) hs_) (fun e_ => NB232_245.out e_))) (an (blk_kept (by exact blk_nw BK233.out) hkp (fun hs_ => Or.elim hs_ (fun hs_ => (fun e_ => (Kd.R_ne HO239.out BK233.out (by decide)) e_) hs_) (fun e_ => NB233_245.out e_))) (an (blk_kept (by exact blk_nw BK234.out) hkp (fun hs_ => Or.elim hs_ (fun hs_ => (fun e_ => (Kd.R_ne HO239.out BK234.out (by decide)) e_) hs_) (fun e_ => NB234_245.out e_))) (an (hi) (an (Kd.R_mono (ok' := fun k_ => True) ho0 (fun k_ hk_ => trivial)) (an (hb) (trivial)))))); clear BK232 BK233 BK234 BK245 HB HO239; obtain ⟨BK232, BK233, BK234, BK245, HO250, HB, -⟩ := n_; (try clear hb); (try clear hkp); (try clear ho0); obtain ⟨hcz39_0, hcz39_1, hcz39_2, hcz39_3, hcz39_4, hcz39_5⟩ := blkz6 BK245.out; have hfz39_0 := blkf BK245.out; obtain ⟨Ao40, co40, eo40⟩ := Kd.R_slice HO250.out; subst eo40; obtain ⟨hcz41_0, hcz41_1, hcz41_2, hcz41_3, hcz41_4, hcz41_5⟩ := blkz6 BK234.out; have hfz41_0 := blkf BK234.out) | ((with_reducible refine gate_store (t := 90) (p := 4) rfl ?_); refine store_event (t := 90) (p := 4) (v := ?vo_w42) (w1 := ((((((w38.setCell ⟨gb234, 0, none⟩ (.slice Ao40 t248.length co40)).setCell ⟨gb234, 1, none⟩ (.int .i64 t251)).setCell ⟨gb234, 2, none⟩ (.int .i64 t252)).setCell ⟨gb234, 3, none⟩ (.int .i64 t253)).setCell ⟨gb234, 4, none⟩ (.int .i64 t254)).setCell ⟨gb234, 5, none⟩ (.int .i64 t255))) ?hg ?ho ?hn ?hr ?_; (case ho => rfl); (case hg => rfl); (case hn => rfl); (case hr => first | (go_simp; done) | (go_simp; rfl)); intro w42 hw; have n0_ : Aside0 (Kd.R (Kd.int .i64) 3 w42 w.heap.size (fun _ => True) (.slice Ao40 t248.length co40) t248) := ⟨(by rw [hw]; exact (by exact (Kd.R_farN HO250.out BK234.out)))⟩; have n1_ : Aside0 (w42.heap[gb232]? = some (.cells #[.slice A0_0 l0_0.length c0_0, .int .i64 a0_1, .int .i64 a0_2, .int .i64 a0_3, .int .i64 a0_4, .int .i64 a0_5] 90 (0, 0))) := ⟨(by rw [hw]; exact (by exact blk_kb BK232.out NB232_234.out))⟩; have n2_ : Aside0 (w42.heap[gb233]? = some (.cells #[.int .i64 a1_0, .slice A1_1 l1_1.length c1_1] 41 (0, 0))) := ⟨(by rw [hw]; exact (by exact blk_kb BK233.out NB233_234.out))⟩; have n3_ : Aside0 (w42.heap[gb234]? = some (.cells #[.slice Ao40 t248.length co40, .int .i64 t251, .int .i64 t252, .int .i64 t253, .int .i64 t254, .int .i64 t255] 90 (0, 0))) := ⟨(by rw [hw]; exact (by (with_reducible repeat (first | refine blk_drewN ?_ _ | refine blk_drew ?_ | refine blk_alloc ?_ _)); exact blk_fill6 BK234.out))⟩; have n4_ : Aside0 (w42.heap[gb245]? = some (.cells #[.slice Ao40 t248.length co40, .int .i64 t251, .int .i64 t252, .int .i64 t253, .int .i64 t254, .int .i64 t255] 90 (0, 0))) := ⟨(by rw [hw]; exact (by exact blk_kb BK245.out NB245_234.out))⟩; have n5_ : Aside0 (Below w.heap.size w w42) := ⟨(by rw [hw]; exact (by exact bel0))⟩; clear hw; clear HO250; clear BK232; clear BK233; clear BK234; clear BK245; clear HB; have HO250 := n0_; have BK232 := n1_; have BK233 := n2_; have BK234 := n3_; have BK245 := n4_; have HB := n5_; clear n0_ n1_ n2_ n3_ n4_ n5_))
        refine bodyPost_ret (results_ctt rfl _ _ gb234 90 #[.slice Ao40 t248.length co40, .int .i64 t251, .int .i64 t252, .int .i64 t253, .int .i64 t254, .int .i64 t255] (0, 0) _ rfl (by exact blk_nw BK234.out) Try.underlying90 rfl (by kernel_rfl)) rfl ?_
        exact ⟨_, by first | rfl | (simp [errW_none, errW_some] <;> rfl) | (simp [*, errW_none, errW_some] <;> rfl), by exact Kd.R_nw HO250.out, by exact bel0⟩

/-! ### impl_within: function 72 -/
def impl_within.f (a0 : Int) (a1 : Int) (a2 : Int) : Option (Bool) := if a1 ≤ a0 then (some (decide (a0 ≤ a2))) else (some false)
set_option maxHeartbeats 8000000 in
set_option maxRecDepth 100000 in
theorem impl_within.calls (a0 : Int) (a1 : Int) (a2 : Int) (r : Bool) (w : World) (h : impl_within.f a0 a1 a2 = some r) :
    Calls Try.prog 72 #[.int .i64 a0, .int .i64 a1, .int .i64 a2] w fun e w' => e = .returned (.bool r) ∧ Drawn0 w w' := by
  have H : (if a1 ≤ a0 then (some (decide (a0 ≤ a2))) else (some false)) = some r := h
  clear h
  by_cases c4 : a1 ≤ a0
  · rw [if_pos c4] at H
    have c4b0 : decide (a1 ≤ a0) = true := decide_eq_true c4
    clear c4
    (try simp only [c4b0])
    obtain rfl := Option.some.inj H
    go_enter Try.func72, Try.ntmps72
    go_wp2
    go_ret
    exact ⟨by first | rfl | (simp; done) | (simp [*]; done), by repeat (first | exact Drawn0.refl _ | apply Drawn0.step)⟩
  · rw [if_neg c4] at H
    have c4b0 : decide (a1 ≤ a0) = false := decide_eq_false c4
    clear c4
    (try simp only [c4b0])
    obtain rfl := Option.some.inj H
    go_enter Try.func72, Try.ntmps72
    go_wp2
    go_ret
    exact ⟨by first | rfl | (simp; done) | (simp [*]; done), by repeat (first | exact Drawn0.refl _ | apply Drawn0.step)⟩

/-! ### impl_MemberOk: function 114 -/
def impl_MemberOk.f (a0_0 : Int) (a0_1 : Int) (a0_2 : Int) : Option (Bool) := (impl_within.f a0_0 0 11).bind fun t257 => (if t257 = true then ((impl_within.f a0_1 0 3).bind fun t258 => (if t258 = true then ((impl_within.f a0_2 0 1000).bind fun t259 => (some t259)) else (some false))) else (some false))
set_option maxHeartbeats 8000000 in
set_option maxRecDepth 100000 in
theorem impl_MemberOk.calls (a0_0 : Int) (a0_1 : Int) (a0_2 : Int) (r : Bool) (w : World) (h : impl_MemberOk.f a0_0 a0_1 a0_2 = some r) :
    Calls Try.prog 114 #[.agg #[.int .i64 a0_0, .int .i64 a0_1, .int .i64 a0_2]] w fun e w' => e = .returned (.bool r) ∧ Below w.heap.size w w' := by
  have hu82 := Try.underlying82
  have HB := Aside0.mk (Below.refl w.heap.size w)
  have H : ((impl_within.f a0_0 0 11).bind fun t257 => (if t257 = true then ((impl_within.f a0_1 0 3).bind fun t258 => (if t258 = true then ((impl_within.f a0_2 0 1000).bind fun t259 => (some t259)) else (some false))) else (some false))) = some r := h
  clear h
  replace H := Option.bind_eq_some_iff.mp H
  obtain ⟨t257, A20, H⟩ := H
  have A2 := Aside0.mk A20
  clear A20
  go_enter Try.func114, Try.ntmps114
  replace H := Aside0.mk H
  go_wp2_with (first | ((with_reducible refine gate_dst (N := 1) rfl ?_); refine box_event ?hg (N := 1) ?hd (cs := #[.int .i64 a0_0, .int .i64 a0_1, .int .i64 a0_2]) (t := 82) ?hr ?_; (case hd => rfl); (case hg => rfl); (case hr => first | (go_simp; done) | (go_simp; rfl)); intro gb256 hg w3 hbox hb; have n_ := an (below_step (by exact bel0) hb) (an (hbox) (an ((by rw [hg]; exact (below_size (by exact bel0)) : w.heap.size ≤ gb256)) (an ((by rw [hg]; exact (below_size (by exact bel0)) : w.heap.size ≤ gb256)) (trivial)))); clear HB; obtain ⟨HB, BK256, GW256, GE256, -⟩ := n_; clear hb hbox hg; obtain ⟨hcz4_0, hcz4_1, hcz4_2⟩ := blkz3 BK256.out; have hfz4_0 := blkf BK256.out) | ((with_reducible refine gate_callee (f := 72) rfl ?_); refine goesL_ (some 5) rfl rfl Try.func72 (by kernel_rfl) rfl #[.int .i64 a0_0, .int .i64 0, .int .i64 11] rfl (by (try simp only [List.map_toArray, List.map_cons, List.map_nil]); first | done | rfl | (simp only [List.length_drop, List.length_take]; rfl)) ?_; (with_reducible refine (impl_within.calls a0_0 0 11 t257 _ A2.out).mono ?_); rintro e w' ⟨rfl, ⟨nd, rfl⟩⟩; refine ⟨_, rfl, ?_⟩; refine Stop.out ?_))
  refine Stop.mk ?_
  replace H := H.out
  by_cases c5 : t257 = true
  · subst c5
    rw [if_pos rfl] at H
    replace H := Option.bind_eq_some_iff.mp H
    obtain ⟨t258, A60, H⟩ := H
    have A6 := Aside0.mk A60
    clear A60
    obtain ⟨hcz7_0, hcz7_1, hcz7_2⟩ := blkz3 BK256.out
    have hfz7_0 := blkf BK256.out
    replace H := Aside0.mk H
    go_wp2_with (first | (go_at_call 72; (with_reducible refine (impl_within.calls a0_1 0 3 t258 _ A6.out).mono ?_); rintro e w' ⟨rfl, ⟨nd, rfl⟩⟩; refine Stop.out ?_))
    refine Stop.mk ?_
    replace H := H.out
    by_cases c8 : t258 = true
    · subst c8
      rw [if_pos rfl] at H
      replace H := Option.bind_eq_some_iff.mp H
      obtain ⟨t259, A90, H⟩ := H
      have A9 := Aside0.mk A90
      clear A90
      obtain rfl := Option.some.inj H
      obtain ⟨hcz10_0, hcz10_1, hcz10_2⟩ := blkz3 BK256.out
      have hfz10_0 := blkf BK256.out
      go_wp2_with (first | (go_at_call 72; (with_reducible refine (impl_within.calls a0_2 0 1000 t259 _ A9.out).mono ?_); rintro e w' ⟨rfl, ⟨nd, rfl⟩⟩))
      go_ret
      exact ⟨by first | rfl | (simp [errW_none, errW_some] <;> rfl) | (simp [*, errW_none, errW_some] <;> rfl), by exact bel0⟩
    · replace c8 := Bool.eq_false_iff.mpr c8
      subst c8
      rw [if_neg (show ¬ (false = true) by decide)] at H
      obtain rfl := Option.some.inj H
      go_wp2
      go_ret
      exact ⟨by first | rfl | (simp [errW_none, errW_some] <;> rfl) | (simp [*, errW_none, errW_some] <;> rfl), by exact bel0⟩
  · replace c5 := Bool.eq_false_iff.mpr c5
    subst c5
    rw [if_neg (show ¬ (false = true) by decide)] at H
    obtain rfl := Option.some.inj H
    go_wp2
    go_ret
    exact ⟨by first | rfl | (simp [errW_none, errW_some] <;> rfl) | (simp [*, errW_none, errW_some] <;> rfl), by exact bel0⟩

-- NOT PRINTED: function 170 (impl_Member_int)

/-! ### impl_Table_member: function 133 -/
def impl_Table_member.cmpI (a b : Int) : Int := if a < b then -1 else if a > b then 1 else 0
theorem impl_Table_member.nan_calls (x : Int) (w : World) : Calls Try.prog 191 #[.int .i64 x] w fun e w' => e = .returned (.bool false) ∧ w' = w := by
  go_enter Try.func191, Try.ntmps191
  go_wp2
  go_ret
  exact ⟨by simp, rfl⟩
theorem impl_Table_member.cmp_calls (x y : Int) (w : World) : Calls Try.prog 172 #[.int .i64 x, .int .i64 y] w fun e w' => e = .returned (.int .i64 (impl_Table_member.cmpI x y)) ∧ w' = w := by
  go_enter Try.func172, Try.ntmps172
  by_cases h1 : x < y
  · have d1 : decide (x < y) = true := decide_eq_true h1
    go_wp2_with (go_at_call 191; refine (impl_Table_member.nan_calls _ _).mono ?_; rintro e w' ⟨rfl, rfl⟩)
    go_ret
    exact ⟨by simp [impl_Table_member.cmpI, h1], rfl⟩
  · have d1 : decide (x < y) = false := decide_eq_false h1
    by_cases h2 : y < x
    · have d2 : decide (y < x) = true := decide_eq_true h2
      go_wp2_with (go_at_call 191; refine (impl_Table_member.nan_calls _ _).mono ?_; rintro e w' ⟨rfl, rfl⟩)
      go_ret
      exact ⟨by simp [impl_Table_member.cmpI, h1, h2], rfl⟩
    · have d2 : decide (y < x) = false := decide_eq_false h2
      go_wp2_with (go_at_call 191; refine (impl_Table_member.nan_calls _ _).mono ?_; rintro e w' ⟨rfl, rfl⟩)
      go_ret
      refine ⟨?_, rfl⟩
      show Ending.returned (.int .i64 0) = .returned (.int .i64 (impl_Table_member.cmpI x y))
      unfold impl_Table_member.cmpI
      rw [if_neg (by omega), if_neg (by omega)]
theorem impl_Table_member.key_calls (a0 a1 a2 id : Int) (w : World) : Calls Try.prog 171 #[.agg #[.int .i64 a0, .int .i64 a1, .int .i64 a2], .int .i64 id] w fun e w' => e = .returned (.int .i64 (impl_Table_member.cmpI a0 id)) ∧ Below w.heap.size w w' := by
  have hu82 := Try.underlying82
  go_enter Try.func171, Try.ntmps171
  go_wp2_with (go_at_call 172; refine (impl_Table_member.cmp_calls _ _ _).mono ?_; rintro e w' ⟨rfl, rfl⟩)
  go_ret
  exact ⟨rfl, by repeat (first | (with_reducible exact Below.refl _ _) | (with_reducible apply below_alloc))⟩
def impl_Table_member.srchl0 : Nat → List S82 → Int → Nat → Nat → Option (Int × Bool)
  | 0, _, _, _, _ => none
  | k + 1, x, id, lo, hi => if lo < hi then (if impl_Table_member.cmpI (rd_T82 x (((lo : Int) + (hi : Int)) / 2)).f0 id < 0 then impl_Table_member.srchl0 k x id ((lo + hi) / 2 + 1) hi else impl_Table_member.srchl0 k x id lo ((lo + hi) / 2))
    else some ((lo : Int), decide (lo < x.length) && (impl_Table_member.cmpI (rd_T82 x (lo : Int)).f0 id == 0))
def impl_Table_member.srchf (k : Nat) (x : List S82) (id : Int) : Option (Int × Bool) := if x.length < 4611686018427387904 then impl_Table_member.srchl0 k x id 0 x.length else none
set_option maxHeartbeats 8000000 in
set_option maxRecDepth 100000 in
theorem impl_Table_member.srchcalls (k : Nat) (A0 : Option Addr) (c0 : Nat) (l0 : List S82) (id r1 : Int) (r2 : Bool) (w : World) (hr0 : Kd.C k82 w A0 l0.length l0) (hc0 : l0.length ≤ c0) (h : impl_Table_member.srchf k l0 id = some (r1, r2)) :
    Calls Try.prog 170 #[.slice A0 l0.length c0, .int .i64 id, .func (.func 171) #[] #[]] w fun e w' => e = .returned (.tuple #[.int .i64 r1, .bool r2]) ∧ Below w.heap.size w w' := by
  have hu82 := Try.underlying82
  have HR0 := Aside0.mk hr0
  clear hr0 hc0
  unfold impl_Table_member.srchf at h
  by_cases hsz : l0.length < 4611686018427387904
  · rw [if_pos hsz] at h
    have HB0 := Aside0.mk (Below.refl w.heap.size w)
    have H' := Aside0.mk h
    clear h
    go_enter Try.func170, Try.ntmps170
    go_wp2
    go_loopg [9, 10] k (fun kx s9 s10 wr => ∃ lo hi : Nat, s9 = .int .i64 lo ∧ s10 = .int .i64 hi ∧ lo ≤ hi ∧ hi ≤ l0.length ∧ Aside0 (impl_Table_member.srchl0 kx l0 id lo hi = some (r1, r2)) ∧ Aside0 (Below w.heap.size w wr))
    case atStart => exact ⟨0, l0.length, rfl, rfl, Nat.zero_le _, Nat.le_refl _, H', HB0⟩
    case round =>
      clear H' HB0
      obtain ⟨lo, hi, rfl, rfl, hlh, hin, HA, HB⟩ := hrel
      cases gk with
      | zero => exact absurd HA.out (by simp [impl_Table_member.srchl0])
      | succ k1 =>
        have H := HA.out
        clear HA
        simp only [impl_Table_member.srchl0] at H
        by_cases hlt : lo < hi
        · rw [if_pos hlt] at H
          obtain ⟨ad, ead, hx0, hx1, hx2⟩ := at_T82 HR0.out (((lo : Int) + (hi : Int)) / 2) (by omega) (by omega)
          cases ead
          replace hx0 := pw_cell_below HB.out hx0
          replace hx1 := pw_cell_below HB.out hx1
          replace hx2 := pw_cell_below HB.out hx2
          have e_ : (((lo : Int) + (hi : Int)) / 2).toNat = (lo + hi) / 2 := by omega
          rw [e_] at hx0 hx1 hx2
          by_cases hc : impl_Table_member.cmpI (rd_T82 l0 (((lo : Int) + (hi : Int)) / 2)).f0 id < 0
          · rw [if_pos hc] at H
            have H2 := Aside0.mk H
            clear H
            go_wp2_with (go_at_call 171; refine (impl_Table_member.key_calls _ _ _ _ _).mono ?_; rintro e w2 ⟨rfl, hb⟩)
            go_roundg k1
            case measure => omega
            case rel => exact ⟨(lo + hi) / 2 + 1, hi, by rw [show ((lo : Int) + (hi : Int)) / 2 + 1 = (((lo + hi) / 2 + 1 : Nat) : Int) by omega], rfl, by omega, hin, H2, ⟨below_step HB.out hb⟩⟩
          · rw [if_neg hc] at H
            have H2 := Aside0.mk H
            clear H
            go_wp2_with (go_at_call 171; refine (impl_Table_member.key_calls _ _ _ _ _).mono ?_; rintro e w2 ⟨rfl, hb⟩)
            go_roundg k1
            case measure => omega
            case rel => exact ⟨lo, (lo + hi) / 2, rfl, by rw [show ((lo : Int) + (hi : Int)) / 2 = (((lo + hi) / 2 : Nat) : Int) by omega], by omega, by omega, H2, ⟨below_step HB.out hb⟩⟩
        · rw [if_neg hlt] at H
          obtain rfl : hi = lo := by omega
          simp only [Option.some.injEq, Prod.mk.injEq] at H
          obtain ⟨rfl, rfl⟩ := H
          by_cases hn : hi < l0.length
          · obtain ⟨ad, ead, hx0, hx1, hx2⟩ := at_T82 HR0.out (hi : Int) (by omega) (by omega)
            cases ead
            replace hx0 := pw_cell_below HB.out hx0
            replace hx1 := pw_cell_below HB.out hx1
            replace hx2 := pw_cell_below HB.out hx2
            rw [Int.toNat_natCast] at hx0 hx1 hx2
            go_wp2_with (go_at_call 171; refine (impl_Table_member.key_calls _ _ _ _ _).mono ?_; rintro e w2 ⟨rfl, hb⟩)
            go_ret2
            exact ⟨by simp [hn], below_step HB.out hb⟩
          · go_wp2
            go_ret2
            exact ⟨by simp [hn], HB.out⟩
  · rw [if_neg hsz] at h
    exact absurd h (by simp)
theorem impl_Table_member.srchmono_l : ∀ (k : Nat) (x : List S82) (id : Int) (lo hi : Nat), LeO (impl_Table_member.srchl0 k x id lo hi) (impl_Table_member.srchl0 (k + 1) x id lo hi)
  | 0, _, _, _, _ => fun r h => by simp [impl_Table_member.srchl0] at h
  | k + 1, x, id, lo, hi => by
    have ih := impl_Table_member.srchmono_l k
    rw [impl_Table_member.srchl0, impl_Table_member.srchl0]
    repeat' first
      | (with_reducible exact ih _ _ _ _)
      | (with_reducible exact LeO.refl _)
      | (with_reducible refine LeO.ite ?_ ?_)
def impl_Table_member.f (k : Nat) (a0_0 : Int) (l0_1 : List S82) (a1 : Int) : Option (Int × Bool) := impl_Table_member.srchf k l0_1 a1
theorem impl_Table_member.mono : ∀ a0 a1 a2 k, LeO (impl_Table_member.f k a0 a1 a2) (impl_Table_member.f (k + 1) a0 a1 a2) := by
  intro a0 a1 a2 k
  unfold impl_Table_member.f impl_Table_member.srchf
  refine LeO.ite (impl_Table_member.srchmono_l _ _ _ _ _) (LeO.refl _)
set_option maxHeartbeats 8000000 in
set_option maxRecDepth 100000 in
theorem impl_Table_member.calls (k : Nat) (a0_0 : Int) (A0_1 : Option Addr) (c0_1 : Nat) (l0_1 : List S82) (a1 : Int) (r1 : Int) (r2 : Bool) (w : World) (hr0_1 : Kd.C k82 w A0_1 l0_1.length l0_1) (hc0_1 : l0_1.length ≤ c0_1) (h : impl_Table_member.f k a0_0 l0_1 a1 = some (r1, r2)) :
    Calls Try.prog 133 #[.agg #[.int .i64 a0_0, .slice A0_1 l0_1.length c0_1], .int .i64 a1] w fun e w' => e = .returned (.tuple #[.int .i64 r1, .bool r2]) ∧ Below w.heap.size w w' := by
  have hu41 := Try.underlying41
  go_enter Try.func133, Try.ntmps133
  go_wp2_with (go_at_call 170; refine (impl_Table_member.srchcalls k _ _ _ _ _ _ _ ?side1 hc0_1 h).mono ?_; (case side1 => repeat (first | exact hr0_1 | (with_reducible refine Kd.C_alloc ?_ _))); rintro e w' ⟨rfl, hb⟩)
  go_ret2
  exact ⟨rfl, below_step (by repeat (first | (with_reducible exact Below.refl _ _) | (with_reducible apply below_alloc))) hb⟩

end Go.Proofs.Ytigoajblljolcaa.XFnExactProbeTick
