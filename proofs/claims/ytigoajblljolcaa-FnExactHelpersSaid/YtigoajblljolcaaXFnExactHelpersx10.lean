-- Written by this session's own program (xprint.py) over the kit's print.
import Derived.Test.YtigoajblljolcaaXFnExactHelpersx0
import Derived.Test.YtigoajblljolcaaXFnExactHelpersx2
import Derived.Test.YtigoajblljolcaaXFnExactHelpersx6
import Derived.Test.YtigoajblljolcaaXFnExactHelpersx7
import Derived.Test.YtigoajblljolcaaXFnExactHelpersx8
import Derived.Test.YtigoajblljolcaaXFnExactHelpersx9
namespace Go.Proofs.Ytigoajblljolcaa.XFnExactHelpers
open Go.RowKit Go.Proofs.YtigoajblljolcaaW.PrintWords Go.Proofs.YtigoajblljolcaaW.PrintLast Go.Proofs.YtigoajblljolcaaW.PrintMore
attribute [local go_sem] max2_int min2_int max_two min_two max_three min_three max_four min_four   -- for this text's walks alone
set_option linter.unusedVariables false
set_option linter.unusedSimpArgs false

/-! ### impl_Prober_helpers: function 124 -/
def impl_Prober_helpers.f (k : Nat) (l0_0 : List Int) (a0_1 : Int) (a0_2 : Int) (a0_3 : Int) (a0_4 : Int) (a0_5 : Int) (a1_0 : Int) (l1_1 : List (S82)) (a2 : Int) : Option (List Int × List Int × Int × Int × Int × Int × Int) := (impl_Table_others.f k a1_0 l1_1 a0_4).bind fun t302 => ((impl_Shuffle.f k t302 a0_2).bind fun bt305 => (if 0 ≤ (mn a2 (bt305.1.length : Int)) then (if (mn a2 (bt305.1.length : Int)) ≤ (bt305.1.length : Int) then (some ((bt305.1.take ((mn a2 (bt305.1.length : Int)) : Int).toNat), l0_0, a0_1, bt305.2, a0_3, a0_4, a0_5)) else (none)) else (none)))
theorem impl_Prober_helpers.mono : ∀ a0 a1 a2 a3 a4 a5 a6 a7 a8 k, LeO (impl_Prober_helpers.f k a0 a1 a2 a3 a4 a5 a6 a7 a8) (impl_Prober_helpers.f (k + 1) a0 a1 a2 a3 a4 a5 a6 a7 a8) := by
 intro a0 a1 a2 a3 a4 a5 a6 a7 a8 k
 unfold impl_Prober_helpers.f
 repeat' first
   | (with_reducible exact impl_Shuffle.mono _ _ _)
   | (with_reducible exact impl_Table_others.mono _ _ _ _)
   | (with_reducible exact LeO.refl _)
   | (with_reducible exact LeO.none _)
   | (with_reducible refine LeO.ite ?_ ?_)
   | (with_reducible refine LeO.bind ?_ (fun _ => ?_))
   | exact impl_Shuffle.mono _ _ _
   | exact impl_Table_others.mono _ _ _ _
   | exact LeO.none _
   | refine LeO.ite ?_ ?_
   | refine LeO.bind ?_ (fun _ => ?_)
def impl_Prober_helpers.T1 : Bool × List (List Nat × List Nat) := (true, [([], []), ([], []), ([1], [1]), ([2], [2]), ([3], [3]), ([0, 4], [0, 4]), ([], []), ([6], [6]), ([7], [7]), ([8], [8]), ([5, 9, 5], [5, 9]), ([10], [10]), ([11], [11]), ([11], [11]), ([12, 10, 0, 1, 2, 3, 4, 5, 6, 7, 8, 9, 10, 11, 12], [12]), ([13, 14, 0, 1, 2, 3, 4, 5, 6, 7, 8, 9, 10, 11, 12, 13, 14], [13])])
def impl_Prober_helpers.B1 : List Nat := [0, 0, 2, 6, 14, 31, 0, 64, 192, 448, 1023, 2047, 4095, 4095, 8191, 32767]
theorem impl_Prober_helpers.tab1 : rtab .any (opsOf Try.f124 1) = impl_Prober_helpers.T1 := by kernel_rfl
theorem impl_Prober_helpers.bits1 : waitsOk impl_Prober_helpers.T1.2 impl_Prober_helpers.B1 = true := by kernel_rfl
set_option maxHeartbeats 8000000 in
set_option maxRecDepth 100000 in
theorem impl_Prober_helpers.calls (k : Nat) (g : Nat) (P0_0_ : Nat → Prop) (u9000_ : Value) (l0_0 : List Int) (a0_1 : Int) (a0_2 : Int) (a0_3 : Int) (a0_4 : Int) (a0_5 : Int) (a1_0 : Int) (A1_1 : Option Addr) (c1_1 : Nat) (l1_1 : List (S82)) (a2 : Int) (r1 : List Int) (r2 : List Int) (r3 : Int) (r4 : Int) (r5 : Int) (r6 : Int) (r7 : Int) (w0 w : World) (hB : Below w0.heap.size w0 w) (hbx : w.heap[g]? = some (.cells #[u9000_, .int .i64 a0_1, .int .i64 a0_2, .int .i64 a0_3, .int .i64 a0_4, .int .i64 a0_5] 90 (0, 0))) (hgx : w0.heap.size ≤ g) (ho0_0 : Kd.R (Kd.int .i64) 3 w w0.heap.size P0_0_ u9000_ l0_0) (hr1_1 : ∀ W_, Kept w W_ (fun k_ => (P0_0_ k_) ∨ k_ = g) → Kd.C k82 W_ A1_1 l1_1.length l1_1) (hc1_1 : l1_1.length ≤ c1_1) (h : impl_Prober_helpers.f k l0_0 a0_1 a0_2 a0_3 a0_4 a0_5 a1_0 l1_1 a2 = some (r1, r2, r3, r4, r5, r6, r7)) :
  Calls Try.prog 124 #[.pointer (some ⟨g, 0, none⟩), .agg #[.int .i64 a1_0, .slice A1_1 l1_1.length c1_1], .int .i64 a2] w fun e w' => ∃ v0_ : Value, e = .returned (v0_) ∧ ∃ v1_ : Value, Kd.R (Kd.int .i64) 3 w' w0.heap.size (fun k_ => (P0_0_ k_ ∨ w.heap.size ≤ k_) ∧ some k_ ≠ (v1_ : Value).ownBlock) v0_ r1 ∧ Kd.R (Kd.int .i64) 3 w' w0.heap.size (fun k_ => (P0_0_ k_ ∨ w.heap.size ≤ k_) ∧ some k_ ≠ (v0_ : Value).ownBlock) v1_ r2 ∧ w'.heap[g]? = some (.cells #[v1_, .int .i64 r3, .int .i64 r4, .int .i64 r5, .int .i64 r6, .int .i64 r7] 90 (0, 0)) ∧ Below w0.heap.size w0 w' ∧ Kept w w' (fun k_ => (P0_0_ k_) ∨ k_ = g) := by
 have hu41 := Try.underlying41
 have BK0 := Aside0.mk hbx; have GE0 := Aside0.mk hgx; clear hbx hgx
 have HO0_0 := Aside0.mk (show Kd.R (Kd.int .i64) 3 w w0.heap.size (fun k_ => (P0_0_ k_ ∨ w.heap.size ≤ k_)) u9000_ l0_0 from Kd.R_mono ho0_0 (fun k_ hk => (.inl hk)))
 have HR1_1 := Aside0.mk hr1_1; have HC1_1 := Aside0.mk hc1_1; clear hr1_1 hc1_1
 have HK := Aside0.mk (Kept.refl w (fun k_ => (P0_0_ k_) ∨ k_ = g))
 have HW0 := Aside0.mk hB.size
 have HB := Aside0.mk hB; clear hB
 have H : ((impl_Table_others.f k a1_0 l1_1 a0_4).bind fun t302 => ((impl_Shuffle.f k t302 a0_2).bind fun bt305 => (if 0 ≤ (mn a2 (bt305.1.length : Int)) then (if (mn a2 (bt305.1.length : Int)) ≤ (bt305.1.length : Int) then (some ((bt305.1.take ((mn a2 (bt305.1.length : Int)) : Int).toNat), l0_0, a0_1, bt305.2, a0_3, a0_4, a0_5)) else (none)) else (none)))) = some (r1, r2, r3, r4, r5, r6, r7) := h
 clear h; replace H := Option.bind_eq_some_iff.mp H; obtain ⟨t302, A40, H⟩ := H; have A4 := Aside0.mk A40; clear A40; replace H := Option.bind_eq_some_iff.mp H
 obtain ⟨⟨t305, t306⟩, A50, H⟩ := H
 replace H : (if 0 ≤ (mn a2 (t305.length : Int)) then (if (mn a2 (t305.length : Int)) ≤ (t305.length : Int) then (some ((t305.take ((mn a2 (t305.length : Int)) : Int).toNat), l0_0, a0_1, t306, a0_3, a0_4, a0_5)) else (none)) else (none)) = some (r1, r2, r3, r4, r5, r6, r7) := H
 have A5 := Aside0.mk A50; clear A50
 obtain ⟨ji6, hji6⟩ : ∃ j_ : Int, (mn a2 (t305.length : Int)) = j_ := ⟨_, rfl⟩
 replace H : (if 0 ≤ (ji6) then (if (ji6) ≤ (t305.length : Int) then (some ((t305.take ((ji6) : Int).toNat), l0_0, a0_1, t306, a0_3, a0_4, a0_5)) else (none)) else (none)) = some (r1, r2, r3, r4, r5, r6, r7) := by first | (rw [hji6] at H; exact H) | (simp only [hji6] at H ⊢; exact H)
 (try rw [hji6] at A4)
 (try rw [hji6] at A5)
 have hji6_ : (if (t305.length : Int) < a2 then (t305.length : Int) else a2) = ji6 := hji6
 go_enter Try.func124, Try.ntmps124
 replace H := Aside0.mk H
 try go_wp2_with (first | ((with_reducible refine gate_dst (N := 4) rfl ?_); refine box_event ?hg (N := 4) ?hd (cs := #[.int .i64 a1_0, .slice A1_1 l1_1.length c1_1]) (t := 41) ?hr ?_; (case hd => rfl); (case hg => rfl); (case hr => first | (go_simp; done) | (go_simp; rfl)); intro gb301 hg w7 hbox hb; have n_ := an (Kd.R_below (by exact Kd.R_nw HO0_0.out) hb) (an (blk_below (blk_nw BK0.out) hb) (an (Kept.below (S := (fun k_ => (P0_0_ k_) ∨ k_ = g)) (by exact kpt) hb) (an (below_step (by exact bel0) hb) (an (hbox) (an ((by rw [hg]; exact (by first | exact HK.out.1 | exact (show Kept w _ (fun k_ => (P0_0_ k_) ∨ k_ = g) from by exact kpt).1) : w.heap.size ≤ gb301)) (an ((by rw [hg]; exact (below_size (by exact bel0)) : w0.heap.size ≤ gb301)) (an ((by rw [hg]; exact Nat.ne_of_lt (blk_lt (blk_nw BK0.out)) : g ≠ gb301)) (an ((by rw [hg]; exact Nat.ne_of_gt (blk_lt (blk_nw BK0.out)) : gb301 ≠ g)) (trivial))))))))); clear HO0_0 BK0 HK HB; obtain ⟨HO0_0, BK0, HK, HB, BK301, GW301, GE301, NB0_301, NB301_0, -⟩ := n_; clear hb hbox hg))
 have n_ := an (Kd.R_drew HO0_0.out) (an (blk_drew BK0.out) (an (blk_drew BK301.out) (an (Kept.drew HK.out) (an (below_drew1 HB.out) (trivial)))))
 clear HO0_0 BK0 BK301 HK HB
 obtain ⟨HO0_0, BK0, BK301, HK, HB, -⟩ := n_
 refine start_ (n := 16) (S := fun w' => w'.cell? ⟨gb301, 0, none⟩ = some (.int .i64 a1_0) ∧ w'.cell? ⟨gb301, 1, none⟩ = some (.slice A1_1 l1_1.length c1_1) ∧ w'.cell? ⟨g, 0, none⟩ = some (u9000_) ∧ w'.cell? ⟨g, 1, none⟩ = some (.int .i64 a0_1) ∧ w'.cell? ⟨g, 2, none⟩ = some (.int .i64 a0_2) ∧ w'.cell? ⟨g, 3, none⟩ = some (.int .i64 a0_3) ∧ w'.cell? ⟨g, 4, none⟩ = some (.int .i64 a0_4) ∧ w'.cell? ⟨g, 5, none⟩ = some (.int .i64 a0_5)) (ds := []) #[false, false, false, false, false, false, false, false, false, false, false, false, false, false, false, false] (by kernel_rfl) rfl rfl ⟨(blk_cell BK301.out 0).trans rfl, (blk_cell BK301.out 1).trans rfl, (blk_cell BK0.out 0).trans rfl, (blk_cell BK0.out 1).trans rfl, (blk_cell BK0.out 2).trans rfl, (blk_cell BK0.out 3).trans rfl, (blk_cell BK0.out 4).trans rfl, (blk_cell BK0.out 5).trans rfl⟩ (fun hHeld => ?_); refine with_tabW impl_Prober_helpers.tab1 impl_Prober_helpers.bits1 (fun HT_ HW_ => ?_)
 generalize w7.drew = w8 at HO0_0 BK0 BK301 HK HB hHeld ⊢
 refine pure_ (i := 1) (N := some 11) (v := ?_) (a' := ?_) #[false, true, false, false, false, false, false, false, false, false, false, false, false, false, false, false] rfl rfl (any_of HT_.out (by kernel_rfl)) (fun _ _ _ h => h) (Or.inl ⟨by rfl, ?_⟩) ?_ ?_
 rotate_left
 ·intro w'
  go_simp
  with_reducible rfl
 rotate_left
 ·simp only [Act.put, List.setIfInBounds_toArray, List.set_cons_zero, List.set_cons_succ, i64_w, i32_w]
  rfl
 refine pure_ (i := 2) (N := some 12) (v := ?_) (a' := ?_) #[false, true, true, false, false, false, false, false, false, false, false, false, false, false, false, false] rfl rfl (any_of HT_.out (by kernel_rfl)) (fun _ _ _ h => h) (Or.inl ⟨by rfl, ?_⟩) ?_ ?_
 rotate_left
 ·intro w'
  go_simp
  with_reducible rfl
 rotate_left
 ·simp only [Act.put, List.setIfInBounds_toArray, List.set_cons_zero, List.set_cons_succ, i64_w, i32_w]
  rfl
 refine pure_ (i := 3) (N := some 13) (v := ?_) (a' := ?_) #[false, true, true, true, false, false, false, false, false, false, false, false, false, false, false, false] rfl rfl (any_of HT_.out (by kernel_rfl)) (fun _ _ _ h => h) (Or.inl ⟨by rfl, ?_⟩) ?_ ?_
 rotate_left
 ·intro w'
  go_simp
  with_reducible rfl
 rotate_left
 ·simp only [Act.put, List.setIfInBounds_toArray, List.set_cons_zero, List.set_cons_succ, i64_w, i32_w]
  rfl
 refine pure_ (i := 6) (N := some 16) (v := ?_) (a' := ?_) #[false, true, true, true, false, false, true, false, false, false, false, false, false, false, false, false] rfl rfl (any_of HT_.out (by kernel_rfl)) (fun _ _ _ h => h) (Or.inl ⟨by rfl, ?_⟩) ?_ ?_
 rotate_left
 ·intro w'
  go_simp
  with_reducible rfl
 rotate_left
 ·simp only [Act.put, List.setIfInBounds_toArray, List.set_cons_zero, List.set_cons_succ, i64_w, i32_w]
  rfl
 refine pure_ (i := 7) (N := some 17) (v := ?_) (a' := ?_) #[false, true, true, true, false, false, true, true, false, false, false, false, false, false, false, false] rfl rfl (any_of HT_.out (by kernel_rfl)) (fun _ _ _ h => h) (Or.inl ⟨by rfl, ?_⟩) ?_ ?_
 rotate_left
 ·intro w'
  go_simp
  with_reducible rfl
 rotate_left
 ·simp only [Act.put, List.setIfInBounds_toArray, List.set_cons_zero, List.set_cons_succ, i64_w, i32_w]
  rfl
 refine pure_ (i := 8) (N := some 18) (v := ?_) (a' := ?_) #[false, true, true, true, false, false, true, true, true, false, false, false, false, false, false, false] rfl rfl (any_of HT_.out (by kernel_rfl)) (fun _ _ _ h => h) (Or.inl ⟨by rfl, ?_⟩) ?_ ?_
 rotate_left
 ·intro w'
  go_simp
  with_reducible rfl
 rotate_left
 ·simp only [Act.put, List.setIfInBounds_toArray, List.set_cons_zero, List.set_cons_succ, i64_w, i32_w]
  rfl
 refine take_ (i := 0) (N := some 10) (v := ?_) (a' := ?_) #[true, true, true, true, false, false, true, true, true, false, false, false, false, false, false, false] rfl rfl (take_ofW HT_.out HW_.out (by kernel_rfl)) (fun _ _ _ h => h) (Or.inl ⟨by rfl, ?_⟩) hHeld ?_ ?_
 rotate_left
 ·rintro w' ⟨s0, s1, s2, s3, s4, s5, s6, s7⟩
  go_simp
  with_reducible rfl
 rotate_left
 ·simp only [Act.put, List.setIfInBounds_toArray, List.set_cons_zero, List.set_cons_succ, i64_w, i32_w]
  rfl
 refine take_ (i := 4) (N := some 14) (v := ?_) (a' := ?_) #[true, true, true, true, true, false, true, true, true, false, false, false, false, false, false, false] rfl rfl (take_ofW HT_.out HW_.out (by kernel_rfl)) (fun _ _ _ h => h) (Or.inl ⟨by rfl, ?_⟩) hHeld ?_ ?_
 rotate_left
 ·rintro w' ⟨s0, s1, s2, s3, s4, s5, s6, s7⟩
  go_simp
  with_reducible rfl
 rotate_left
 ·simp only [Act.put, List.setIfInBounds_toArray, List.set_cons_zero, List.set_cons_succ, i64_w, i32_w]
  rfl
 refine take_ (i := 9) (N := some 19) (v := ?_) (a' := ?_) #[true, true, true, true, true, false, true, true, true, true, false, false, false, false, false, false] rfl rfl (take_ofW HT_.out HW_.out (by kernel_rfl)) (fun _ _ _ h => h) (Or.inl ⟨by rfl, ?_⟩) hHeld ?_ ?_
 rotate_left
 ·rintro w' ⟨s0, s1, s2, s3, s4, s5, s6, s7⟩
  go_simp
  with_reducible rfl
 rotate_left
 ·simp only [Act.put, List.setIfInBounds_toArray, List.set_cons_zero, List.set_cons_succ, i64_w, i32_w]
  rfl
 refine one_ (i := 5) (N := some 15) #[true, true, true, true, true, true, true, true, true, true, false, false, false, false, false, false] rfl rfl (one_of HT_.out (by kernel_rfl)) (by decide) (fun K hK => ?_)
 refine goes_ Try.func161 (by kernel_rfl) rfl #[.agg #[.int .i64 a1_0, .slice A1_1 l1_1.length c1_1], .int .i64 a0_4] (by rfl) rfl rfl (by (try simp only [List.map_toArray, List.map_cons, List.map_nil]); first | done | rfl | (simp only [List.length_drop, List.length_take]; rfl)) ?_
 with_reducible refine (impl_Table_others.calls k a1_0 _ _ l1_1 a0_4 t302 _ ?side1 ?side2 A4.out).mono ?_
 (case side1 => exact Kd.C_kept_now HR1_1.out (by exact kpt))
 (case side2 => exact HC1_1.out)
 rintro e w9 ⟨v303, rfl, ho0, hb⟩
 refine ⟨_, rfl, ?_⟩
 have n_ := an (Kd.R_elder' (by exact Kd.R_nw HO0_0.out) (Kd.R_base ho0) hb) (an (Kd.R_lower (Kd.R_new' (Kd.R_newM (M := fun k_ => (P0_0_ k_ ∨ w.heap.size ≤ k_)) ho0 (by first | exact HK.out.1 | exact (show Kept w _ (fun k_ => (P0_0_ k_) ∨ k_ = g) from by exact kpt).1) (fun k_ h_ => .inr h_)) (Kd.R_lt (by exact Kd.R_nw HO0_0.out))) (below_size (by exact bel0))) (an (blk_below (blk_nw BK0.out) hb) (an (blk_below (blk_nw BK301.out) hb) (an (Kept.below (S := (fun k_ => (P0_0_ k_) ∨ k_ = g)) (by exact kpt) hb) (an (below_step (by exact bel0) hb) (trivial))))))
 clear HO0_0 BK0 BK301 HK HB
 obtain ⟨HO0_0, HO304, BK0, BK301, HK, HB, -⟩ := n_
 (try clear hb); (try clear hb2); (try clear hk); (try clear hi); (try clear ho0)
 obtain ⟨Ao10, co10, eo10⟩ := Kd.R_slice HO304.out
 (first | subst eo10 | (injection eo10 with f1_ f2_ f3_; have f4_ := f1_.symm; have f5_ := f3_.symm; clear f1_ f2_ f3_; subst f4_; subst f5_))
 refine hK.out _ _ ⟨(blk_cell BK301.out 0).trans rfl, (blk_cell BK301.out 1).trans rfl, (blk_cell BK0.out 0).trans rfl, (blk_cell BK0.out 1).trans rfl, (blk_cell BK0.out 2).trans rfl, (blk_cell BK0.out 3).trans rfl, (blk_cell BK0.out 4).trans rfl, (blk_cell BK0.out 5).trans rfl⟩ (fun hHeld => ?_)
 clear hK K
 refine norm_ (a' := ?_) ?_ ?_
 rotate_left
 ·show Act.put _ (some 15) _ = _
  simp only [Act.put, List.setIfInBounds_toArray, List.set_cons_zero, List.set_cons_succ, i64_w, i32_w]
  rfl
 refine one_ (i := 10) (N := some 20) #[true, true, true, true, true, true, true, true, true, true, true, false, false, false, false, false] rfl rfl (one_of HT_.out (by kernel_rfl)) (by decide) (fun K hK => ?_)
 refine goes_ Try.func160 (by kernel_rfl) rfl #[.slice Ao10 t302.length co10, .int .i64 a0_2] (by rfl) rfl rfl (by (try simp only [List.map_toArray, List.map_cons, List.map_nil]); first | done | rfl | (simp only [List.length_drop, List.length_take]; rfl)) ?_
 with_reducible refine (impl_Shuffle.calls k _ _ t302 a0_2 t305 t306 _ ?side1 ?side2 A5.out).mono ?_
 (case side1 => repeat (first | exact (Kd.R_reads' HO304.out).2.2 | (with_reducible refine Kd.C_alloc ?_ _) | (with_reducible refine Kd.C_drewN ?_ _) | (with_reducible refine Kd.C_drew ?_)))
 (case side2 => exact (Kd.R_reads' HO304.out).2.1)
 rintro e w11 ⟨v307, rfl, ho0, hb⟩
 refine ⟨_, rfl, ?_⟩
 have n_ := an (Kd.R_elder' (by exact Kd.R_nw HO0_0.out) (Kd.R_base ho0) hb) (an (Kd.R_elder' (by exact Kd.R_nw HO304.out) (Kd.R_base ho0) hb) (an (Kd.R_lower (Kd.R_new' (Kd.R_new' (Kd.R_newM (M := fun k_ => (P0_0_ k_ ∨ w.heap.size ≤ k_)) ho0 (by first | exact HK.out.1 | exact (show Kept w _ (fun k_ => (P0_0_ k_) ∨ k_ = g) from by exact kpt).1) (fun k_ h_ => .inr h_)) (Kd.R_lt (by exact Kd.R_nw HO0_0.out))) (Kd.R_lt (by exact Kd.R_nw HO304.out))) (below_size (by exact bel0))) (an (blk_below (blk_nw BK0.out) hb) (an (blk_below (blk_nw BK301.out) hb) (an (Kept.below (S := (fun k_ => (P0_0_ k_) ∨ k_ = g)) (by exact kpt) hb) (an (below_step (by exact bel0) hb) (trivial)))))))
 clear HO0_0 HO304 BK0 BK301 HK HB
 obtain ⟨HO0_0, HO304, HO308, BK0, BK301, HK, HB, -⟩ := n_
 (try clear hb); (try clear hb2); (try clear hk); (try clear hi); (try clear ho0)
 refine hK.out _ _ ⟨(blk_cell BK301.out 0).trans rfl, (blk_cell BK301.out 1).trans rfl, (blk_cell BK0.out 0).trans rfl, (blk_cell BK0.out 1).trans rfl, (blk_cell BK0.out 2).trans rfl, (blk_cell BK0.out 3).trans rfl, (blk_cell BK0.out 4).trans rfl, (blk_cell BK0.out 5).trans rfl⟩ (fun hHeld => ?_)
 clear hK K
 refine norm_ (a' := ?_) ?_ ?_
 rotate_left
 ·show Act.put _ (some 20) _ = _
  simp only [Act.put, List.setIfInBounds_toArray, List.set_cons_zero, List.set_cons_succ, i64_w, i32_w]
  rfl
 refine pure_ (i := 11) (N := some 9) (v := ?_) (a' := ?_) #[true, true, true, true, true, true, true, true, true, true, true, true, false, false, false, false] rfl rfl (any_of HT_.out (by kernel_rfl)) (fun _ _ _ h => h) (Or.inl ⟨by rfl, ?_⟩) ?_ ?_
 rotate_left
 ·intro w'
  go_simp
  with_reducible rfl
 rotate_left
 ·simp only [Act.put, List.setIfInBounds_toArray, List.set_cons_zero, List.set_cons_succ, i64_w, i32_w]
  rfl
 refine pure_ (i := 12) (N := some 21) (v := ?_) (a' := ?_) #[true, true, true, true, true, true, true, true, true, true, true, true, true, false, false, false] rfl rfl (any_of HT_.out (by kernel_rfl)) (fun _ _ _ h => h) (Or.inl ⟨by rfl, ?_⟩) ?_ ?_
 rotate_left
 ·intro w'
  go_simp
  with_reducible rfl
 rotate_left
 ·simp only [Act.put, List.setIfInBounds_toArray, List.set_cons_zero, List.set_cons_succ, i64_w, i32_w]
  rfl
 refine pure_ (i := 13) (N := some 22) (v := ?_) (a' := ?_) #[true, true, true, true, true, true, true, true, true, true, true, true, true, true, false, false] rfl rfl (any_of HT_.out (by kernel_rfl)) (fun _ _ _ h => h) (Or.inl ⟨by rfl, ?_⟩) ?_ ?_
 rotate_left
 ·intro w'
  go_simp
  with_reducible rfl
 rotate_left
 ·simp only [Act.put, List.setIfInBounds_toArray, List.set_cons_zero, List.set_cons_succ, i64_w, i32_w]
  rfl
 refine pure_ (i := 14) (N := some 7) (v := ?_) (a' := ?_) #[true, true, true, true, true, true, true, true, true, true, true, true, true, true, true, false] rfl rfl (any_of HT_.out (by kernel_rfl)) (fun _ _ _ h => h) (Or.inl ⟨by rfl, ?_⟩) ?_ ?_
 rotate_left
 ·intro w'
  go_simp
  with_reducible rfl
 rotate_left
 ·simp only [Act.put, List.setIfInBounds_toArray, List.set_cons_zero, List.set_cons_succ, i64_w, i32_w]
  rfl
 refine pure_ (i := 15) (N := some 8) (v := ?_) (a' := ?_) #[true, true, true, true, true, true, true, true, true, true, true, true, true, true, true, true] rfl rfl (any_of HT_.out (by kernel_rfl)) (fun _ _ _ h => h) (Or.inl ⟨by rfl, ?_⟩) ?_ ?_
 rotate_left
 ·intro w'
  go_simp
  with_reducible rfl
 rotate_left
 ·simp only [Act.put, List.setIfInBounds_toArray, List.set_cons_zero, List.set_cons_succ, i64_w, i32_w]
  rfl
 refine done_ (done_of HT_.out (by kernel_rfl)) ?_
 have hnb12 := NB0_301.out; have hnc12 := NB301_0.out; obtain ⟨hcz13_0, hcz13_1, hcz13_2, hcz13_3, hcz13_4, hcz13_5⟩ := blkz6 BK0.out; have hfz13_0 := blkf BK0.out
 obtain ⟨Ao14, co14, eo14⟩ := Kd.R_slice HO308.out
 subst eo14
 replace H := H.out
 by_cases c15 : 0 ≤ (ji6)
 ·rw [if_pos c15] at H
  have c15b0 := eq_true c15
  have c15b1 : decide (0 ≤ (ji6)) = true := decide_eq_true c15; clear c15
  by_cases c16 : (ji6) ≤ (t305.length : Int)
  ·rw [if_pos c16] at H
   have c16b0 := eq_true c16
   have c16b1 : decide ((ji6) ≤ (t305.length : Int)) = true := decide_eq_true c16
   clear c16
   obtain ⟨y309, hy309⟩ : ∃ y_ : List Int, y_ = (t305.take ((ji6) : Int).toNat) := ⟨_, rfl⟩
   replace H : (some (y309, l0_0, a0_1, t306, a0_3, a0_4, a0_5)) = some (r1, r2, r3, r4, r5, r6, r7) := by first | (rw [hy309]; with_reducible exact H) | (have H2_ := (Option.bind_some _ _).symm.trans H; rw [hy309]; with_reducible exact H2_) | (have H2_ := (Option.bind_some _ _).symm.trans H; with_reducible exact H2_) | with_reducible exact H | (rw [hy309]; exact H) | exact H
   have Ny309 := Aside0.mk hy309; clear hy309; simp only [Option.some.injEq, Prod.mk.injEq] at H; obtain ⟨rfl, rfl, rfl, rfl, rfl, rfl, rfl⟩ := H
   have q17 : ((ji6) : Int) ≤ ((t305.length : Int) : Int) := of_decide_eq_true (by first | (with_reducible assumption) | assumption)
   obtain ⟨i017, hi017, _, hsz17, _⟩ := info_parts info3
   have hcut17 := cut_to (P := Try.prog) 63 3 .i64 Try.underlying63 hi017 Ao14 t305.length co14 (ji6) (of_decide_eq_true (by first | (with_reducible assumption) | assumption)) q17 (Kd.R_reads' HO308.out).2.1
   have hr17 := Kd.R_take (m := ((ji6) : Int).toNat) HO308.out (by omega)
   have hy17 : y309.length = ((ji6) : Int).toNat := (by rw [Ny309.out, List.length_take]; omega)
   rw [← Ny309.out] at hr17
   rw [← hy17] at hr17 hcut17
   clear hy17 hi017 hsz17 HO308; have HO311 := Aside0.mk hr17; clear hr17
   replace q17 := eq_true q17
   go_wp2
   go_ret
   exact ⟨(.slice Ao14 y309.length co14), by first | rfl | (simp [errW_none, errW_some] <;> rfl) | (simp only [← hji6]; first | rfl | (simp [errW_none, errW_some] <;> rfl)) | (simp [*, errW_none, errW_some] <;> rfl), (u9000_), by exact Kd.R_mono (Kd.R_farN HO311.out BK0.out) (fun _ hk => ⟨hk.1.1.1, by first | exact hk.1.2 | exact fun e_ => hk.1.2 (e_.trans (by generalize Ao14 = A_; cases A_ <;> rfl))⟩), by exact Kd.R_mono (Kd.R_farN HO0_0.out BK0.out) (fun _ hk => ⟨hk.1.1, by first | exact hk.2 | exact fun e_ => hk.2 (e_.trans (by generalize Ao14 = A_; cases A_ <;> rfl))⟩), by (with_reducible repeat (first | refine blk_drewN ?_ _ | refine blk_drew ?_ | refine blk_alloc ?_ _)); refine blk_put (cs := #[u9000_, .int .i64 a0_1, .int .i64 a0_2, .int .i64 a0_3, .int .i64 a0_4, .int .i64 a0_5]) ?_ 2 _ rfl; (with_reducible repeat (first | refine blk_drewN ?_ _ | refine blk_drew ?_ | refine blk_alloc ?_ _)); exact BK0.out, by exact bel0, by exact kpt⟩
  ·rw [if_neg c16] at H
   exact absurd H (by simp)
 ·rw [if_neg c15] at H
  exact absurd H (by simp)

/-! ### impl_Helpers: function 59 -/
def impl_Helpers.j0 : Nat → Int → Bool → List Int → Int → Int → Int → Int → Int → Int → List (S82) → Option (List Int × Int × Int × Int × Int × Int × List Int)
  | 0, _, _, _, _, _, _, _, _, _, _ => none
  | k + 1, x2, x22, x313000, x313001, x313002, x313003, x313004, x313005, x314000, x314001 => if x22 = true then (some (([] : List Int), 0, 0, 0, 0, 0, ([] : List Int))) else ((impl_Prober_own.f x313000 x313001 x313002 x313003 x313004 x313005).bind fun bt318 => ((impl_Prober_helpers.f k bt318.1 bt318.2.1 bt318.2.2.1 bt318.2.2.2.1 bt318.2.2.2.2.1 bt318.2.2.2.2.2 x314000 x314001 x2).bind fun bt327 => (some (bt327.2.1, bt327.2.2.1, bt327.2.2.2.1, bt327.2.2.2.2.1, bt327.2.2.2.2.2.1, bt327.2.2.2.2.2.2, bt327.1))))
def impl_Helpers.f (k : Nat) (l0_0 : List Int) (a0_1 : Int) (a0_2 : Int) (a0_3 : Int) (a0_4 : Int) (a0_5 : Int) (a1_0 : Int) (l1_1 : List (S82)) (a2 : Int) : Option (List Int × Int × Int × Int × Int × Int × List Int) := (impl_ProberOk.f k l0_0 a0_1 a0_2 a0_3 a0_4 a0_5).bind fun t315 => (if t315 = true then ((impl_TableOk.f k a1_0 l1_1).bind fun t316 => (if t316 = true then ((impl_within.f a2 0 3).bind fun t317 => (impl_Helpers.j0 k a2 (!t317) l0_0 a0_1 a0_2 a0_3 a0_4 a0_5 a1_0 l1_1)) else (impl_Helpers.j0 k a2 true l0_0 a0_1 a0_2 a0_3 a0_4 a0_5 a1_0 l1_1))) else (impl_Helpers.j0 k a2 true l0_0 a0_1 a0_2 a0_3 a0_4 a0_5 a1_0 l1_1))
theorem impl_Helpers.mono_l : ∀ k, (∀ y0 y1 y2 y3 y4 y5 y6 y7 y8 y9, LeO (impl_Helpers.j0 k y0 y1 y2 y3 y4 y5 y6 y7 y8 y9) (impl_Helpers.j0 (k + 1) y0 y1 y2 y3 y4 y5 y6 y7 y8 y9))
 | 0 => fun _ _ _ _ _ _ _ _ _ _ r h => by simp [impl_Helpers.j0] at h
 | k + 1 => by
  have ih0 := impl_Helpers.mono_l k
  ·intro y0 y1 y2 y3 y4 y5 y6 y7 y8 y9
   unfold impl_Helpers.j0
   repeat' first
   | (with_reducible exact ih0 _ _ _ _ _ _ _ _ _ _)
   | (with_reducible exact impl_ProberOk.mono _ _ _ _ _ _ _)
   | (with_reducible exact impl_Prober_helpers.mono _ _ _ _ _ _ _ _ _ _)
   | (with_reducible exact impl_TableOk.mono _ _ _)
   | (with_reducible exact LeO.refl _)
   | (with_reducible exact LeO.none _)
   | (with_reducible refine LeO.ite ?_ ?_)
   | (with_reducible refine LeO.bind ?_ (fun _ => ?_))
   | exact ih0 _ _ _ _ _ _ _ _ _ _
   | exact impl_ProberOk.mono _ _ _ _ _ _ _
   | exact impl_Prober_helpers.mono _ _ _ _ _ _ _ _ _ _
   | exact impl_TableOk.mono _ _ _
   | exact LeO.none _
   | refine LeO.ite ?_ ?_
   | refine LeO.bind ?_ (fun _ => ?_)
theorem impl_Helpers.mono : ∀ a0 a1 a2 a3 a4 a5 a6 a7 a8 k, LeO (impl_Helpers.f k a0 a1 a2 a3 a4 a5 a6 a7 a8) (impl_Helpers.f (k + 1) a0 a1 a2 a3 a4 a5 a6 a7 a8) := by
 intro a0 a1 a2 a3 a4 a5 a6 a7 a8 k
 have ih0 := impl_Helpers.mono_l k
 unfold impl_Helpers.f
 repeat' first
   | (with_reducible exact ih0 _ _ _ _ _ _ _ _ _ _)
   | (with_reducible exact impl_ProberOk.mono _ _ _ _ _ _ _)
   | (with_reducible exact impl_Prober_helpers.mono _ _ _ _ _ _ _ _ _ _)
   | (with_reducible exact impl_TableOk.mono _ _ _)
   | (with_reducible exact LeO.refl _)
   | (with_reducible exact LeO.none _)
   | (with_reducible refine LeO.ite ?_ ?_)
   | (with_reducible refine LeO.bind ?_ (fun _ => ?_))
   | exact ih0 _ _ _ _ _ _ _ _ _ _
   | exact impl_ProberOk.mono _ _ _ _ _ _ _
   | exact impl_Prober_helpers.mono _ _ _ _ _ _ _ _ _ _
   | exact impl_TableOk.mono _ _ _
   | exact LeO.none _
   | refine LeO.ite ?_ ?_
   | refine LeO.bind ?_ (fun _ => ?_)
set_option maxHeartbeats 8000000 in
set_option maxRecDepth 100000 in
theorem impl_Helpers.calls (k : Nat) (A0_0 : Option Addr) (c0_0 : Nat) (l0_0 : List Int) (a0_1 : Int) (a0_2 : Int) (a0_3 : Int) (a0_4 : Int) (a0_5 : Int) (a1_0 : Int) (A1_1 : Option Addr) (c1_1 : Nat) (l1_1 : List (S82)) (a2 : Int) (r1 : List Int) (r2 : Int) (r3 : Int) (r4 : Int) (r5 : Int) (r6 : Int) (r7 : List Int) (w : World) (hr0_0 : Kd.C (Kd.int .i64) w A0_0 l0_0.length l0_0) (hc0_0 : l0_0.length ≤ c0_0) (hr1_1 : Kd.C k82 w A1_1 l1_1.length l1_1) (hc1_1 : l1_1.length ≤ c1_1) (h : impl_Helpers.f k l0_0 a0_1 a0_2 a0_3 a0_4 a0_5 a1_0 l1_1 a2 = some (r1, r2, r3, r4, r5, r6, r7)) :
  Calls Try.prog 59 #[.agg #[.slice A0_0 l0_0.length c0_0, .int .i64 a0_1, .int .i64 a0_2, .int .i64 a0_3, .int .i64 a0_4, .int .i64 a0_5], .agg #[.int .i64 a1_0, .slice A1_1 l1_1.length c1_1], .int .i64 a2] w fun e w' => ∃ v0_ v6_ : Value, e = .returned (.tuple #[.agg #[v0_, .int .i64 r2, .int .i64 r3, .int .i64 r4, .int .i64 r5, .int .i64 r6], v6_]) ∧ Kd.R (Kd.int .i64) 3 w' w.heap.size (fun k_ => some k_ ≠ (v6_ : Value).ownBlock) v0_ r1 ∧ Kd.R (Kd.int .i64) 3 w' w.heap.size (fun k_ => some k_ ≠ (v0_ : Value).ownBlock) v6_ r7 ∧ Below w.heap.size w w' := by
 have hu90 := Try.underlying90
 have hu41 := Try.underlying41
 have HR0_0 := Aside0.mk hr0_0; have HC0_0 := Aside0.mk hc0_0; clear hr0_0 hc0_0; have HR1_1 := Aside0.mk hr1_1; have HC1_1 := Aside0.mk hc1_1; clear hr1_1 hc1_1
 have HB := Aside0.mk (Below.refl w.heap.size w)
 have H : ((impl_ProberOk.f k l0_0 a0_1 a0_2 a0_3 a0_4 a0_5).bind fun t315 => (if t315 = true then ((impl_TableOk.f k a1_0 l1_1).bind fun t316 => (if t316 = true then ((impl_within.f a2 0 3).bind fun t317 => (impl_Helpers.j0 k a2 (!t317) l0_0 a0_1 a0_2 a0_3 a0_4 a0_5 a1_0 l1_1)) else (impl_Helpers.j0 k a2 true l0_0 a0_1 a0_2 a0_3 a0_4 a0_5 a1_0 l1_1))) else (impl_Helpers.j0 k a2 true l0_0 a0_1 a0_2 a0_3 a0_4 a0_5 a1_0 l1_1))) = some (r1, r2, r3, r4, r5, r6, r7) := h
 clear h; have HC4 := Aside0.mk H; clear H; go_enter Try.func59, Try.ntmps59
 go_upto_region 1 with (first | ((with_reducible refine gate_dst (N := 3) rfl ?_); refine box_event ?hg (N := 3) ?hd (cs := #[.slice A0_0 l0_0.length c0_0, .int .i64 a0_1, .int .i64 a0_2, .int .i64 a0_3, .int .i64 a0_4, .int .i64 a0_5]) (t := 90) ?hr ?_; (case hd => rfl); (case hg => rfl); (case hr => first | (go_simp; done) | (go_simp; rfl)); intro gb312 hg w5 hbox hb; have n_ := an (below_step (by exact bel0) hb) (an (hbox) (an ((by rw [hg]; exact (below_size (by exact bel0)) : w.heap.size ≤ gb312)) (an ((by rw [hg]; exact (below_size (by exact bel0)) : w.heap.size ≤ gb312)) (trivial)))); clear HB; obtain ⟨HB, BK312, GW312, GE312, -⟩ := n_; clear hb hbox hg) | ((with_reducible refine gate_dst (N := 4) rfl ?_); refine box_event ?hg (N := 4) ?hd (cs := #[.int .i64 a1_0, .slice A1_1 l1_1.length c1_1]) (t := 41) ?hr ?_; (case hd => rfl); (case hg => rfl); (case hr => first | (go_simp; done) | (go_simp; rfl)); intro gb313 hg w6 hbox hb; have n_ := an (blk_below (blk_nw BK312.out) hb) (an (below_step (by exact bel0) hb) (an (hbox) (an ((by rw [hg]; exact (below_size (by exact bel0)) : w.heap.size ≤ gb313)) (an ((by rw [hg]; exact (below_size (by exact bel0)) : w.heap.size ≤ gb313)) (an ((by rw [hg]; exact Nat.ne_of_lt (blk_lt (blk_nw BK312.out)) : gb312 ≠ gb313)) (an ((by rw [hg]; exact Nat.ne_of_gt (blk_lt (blk_nw BK312.out)) : gb313 ≠ gb312)) (trivial))))))); clear BK312 HB; obtain ⟨BK312, HB, BK313, GW313, GE313, NB312_313, NB313_312, -⟩ := n_; clear hb hbox hg) | ((with_reducible refine gate_dst (N := 6) rfl ?_); refine box_event ?hg (N := 6) ?hd (cs := #[.slice none 0 0, .int .i64 0, .int .i64 0, .int .i64 0, .int .i64 0, .int .i64 0]) (t := 90) ?hr ?_; (case hd => rfl); (case hg => rfl); (case hr => first | (go_simp; done) | (go_simp; rfl)); intro gb314 hg w7 hbox hb; have n_ := an (blk_below (blk_nw BK312.out) hb) (an (blk_below (blk_nw BK313.out) hb) (an (below_step (by exact bel0) hb) (an (hbox) (an ((by rw [hg]; exact (below_size (by exact bel0)) : w.heap.size ≤ gb314)) (an ((by rw [hg]; exact (below_size (by exact bel0)) : w.heap.size ≤ gb314)) (an ((by rw [hg]; exact Nat.ne_of_lt (blk_lt (blk_nw BK312.out)) : gb312 ≠ gb314)) (an ((by rw [hg]; exact Nat.ne_of_gt (blk_lt (blk_nw BK312.out)) : gb314 ≠ gb312)) (an ((by rw [hg]; exact Nat.ne_of_lt (blk_lt (blk_nw BK313.out)) : gb313 ≠ gb314)) (an ((by rw [hg]; exact Nat.ne_of_gt (blk_lt (blk_nw BK313.out)) : gb314 ≠ gb313)) (trivial)))))))))); clear BK312 BK313 HB; obtain ⟨BK312, BK313, HB, BK314, GW314, GE314, NB312_314, NB314_312, NB313_314, NB314_313, -⟩ := n_; clear hb hbox hg))
 (try simp only [Act.put, List.setIfInBounds_toArray, List.set_cons_zero, List.set_cons_succ])
 go_cut [22] (fun v22 wc => ∃ (kq : Nat) (x22_3 : Bool), v22 = .bool x22_3 ∧ Aside0 (impl_Helpers.j0 kq a2 x22_3 l0_0 a0_1 a0_2 a0_3 a0_4 a0_5 a1_0 l1_1 = some (r1, r2, r3, r4, r5, r6, r7)) ∧ Aside0 (kq ≤ k) ∧ Aside0 (wc.heap[gb312]? = some (.cells #[(.slice A0_0 l0_0.length c0_0), .int .i64 a0_1, .int .i64 a0_2, .int .i64 a0_3, .int .i64 a0_4, .int .i64 a0_5] 90 (0, 0))) ∧ Aside0 (wc.heap[gb313]? = some (.cells #[.int .i64 a1_0, (.slice A1_1 l1_1.length c1_1)] 41 (0, 0))) ∧ Aside0 (wc.heap[gb314]? = some (.cells #[(.slice none 0 0), .int .i64 0, .int .i64 0, .int .i64 0, .int .i64 0, .int .i64 0] 90 (0, 0))) ∧ Aside0 (Below w.heap.size w wc))
 case first =>
  have H := HC4.out; clear HC4; replace H := Option.bind_eq_some_iff.mp H; obtain ⟨t315, A80, H⟩ := H; have A8 := Aside0.mk A80; clear A80; have hnb9 := NB312_313.out; have hnc9 := NB313_312.out; have hnb10 := NB312_314.out; have hnc10 := NB314_312.out; obtain ⟨hcz11_0, hcz11_1, hcz11_2, hcz11_3, hcz11_4, hcz11_5⟩ := blkz6 BK312.out; have hfz11_0 := blkf BK312.out
  replace H := Aside0.mk H
  go_wp2_with (first | ((with_reducible refine gate_callee (f := 122) rfl ?_); refine goesL_ (some 11) rfl rfl Try.func122 (by kernel_rfl) rfl #[.agg #[.slice A0_0 l0_0.length c0_0, .int .i64 a0_1, .int .i64 a0_2, .int .i64 a0_3, .int .i64 a0_4, .int .i64 a0_5]] rfl (by (try simp only [List.map_toArray, List.map_cons, List.map_nil]); first | done | rfl | (simp only [List.length_drop, List.length_take]; rfl)) ?_; (with_reducible refine (impl_ProberOk.calls k _ _ l0_0 a0_1 a0_2 a0_3 a0_4 a0_5 t315 _ ?side1 ?side2 A8.out).mono ?_); (case side1 => repeat (first | exact (Kd.C_below HR0_0.out HB.out) | (with_reducible refine Kd.C_alloc ?_ _) | (with_reducible refine Kd.C_drewN ?_ _) | (with_reducible refine Kd.C_drew ?_))); (case side2 => exact HC0_0.out); rintro e w12 ⟨rfl, hb⟩; refine ⟨_, rfl, ?_⟩; have n_ := an (blk_below (blk_nw BK312.out) hb) (an (blk_below (blk_nw BK313.out) hb) (an (blk_below (blk_nw BK314.out) hb) (an (below_step (by exact bel0) hb) (trivial)))); clear BK312 BK313 BK314 HB; obtain ⟨BK312, BK313, BK314, HB, -⟩ := n_; (try clear hb); (try clear hb2); (try clear hk); (try clear hi); refine Stop.out ?_))
  refine Stop.mk ?_
  replace H := H.out
  by_cases c13 : t315 = true
  ·subst c13; rw [if_pos rfl] at H; replace H := Option.bind_eq_some_iff.mp H; obtain ⟨t316, A140, H⟩ := H; have A14 := Aside0.mk A140; clear A140; have hnb15 := NB313_312.out; have hnc15 := NB312_313.out; have hnb16 := NB313_314.out; have hnc16 := NB314_313.out; obtain ⟨hcz17_0, hcz17_1⟩ := blkz2 BK313.out; have hfz17_0 := blkf BK313.out
   replace H := Aside0.mk H
   go_wp2_with (first | (go_at_call 81; (with_reducible refine (impl_TableOk.calls k a1_0 _ _ l1_1 t316 _ ?side1 ?side2 A14.out).mono ?_); (case side1 => repeat (first | exact (Kd.C_below HR1_1.out HB.out) | (with_reducible refine Kd.C_alloc ?_ _) | (with_reducible refine Kd.C_drewN ?_ _) | (with_reducible refine Kd.C_drew ?_))); (case side2 => exact HC1_1.out); rintro e w18 ⟨rfl, hb⟩; have n_ := an (blk_below (blk_nw BK312.out) hb) (an (blk_below (blk_nw BK313.out) hb) (an (blk_below (blk_nw BK314.out) hb) (an (below_step (by exact bel0) hb) (trivial)))); clear BK312 BK313 BK314 HB; obtain ⟨BK312, BK313, BK314, HB, -⟩ := n_; (try clear hb); (try clear hb2); (try clear hk); (try clear hi); refine Stop.out ?_))
   refine Stop.mk ?_
   replace H := H.out
   by_cases c19 : t316 = true
   ·subst c19; rw [if_pos rfl] at H; replace H := Option.bind_eq_some_iff.mp H; obtain ⟨t317, A200, H⟩ := H; have A20 := Aside0.mk A200; clear A200
    have H' := Aside0.mk H
    clear H
    go_wp2_with (first | (go_at_call 72; (with_reducible refine (impl_within.calls a2 0 3 t317 _ A20.out).mono ?_); rintro e w' ⟨rfl, ⟨nd, rfl⟩⟩))
    go_meet
    case rel => exact ⟨_, (!t317), (by first | rfl | (simp; done) | (simp [*]; done)), H', ⟨by first | omega | exact Nat.le_refl _⟩, ⟨by exact blk_nw BK312.out⟩, ⟨by exact blk_nw BK313.out⟩, ⟨by exact blk_nw BK314.out⟩, ⟨by exact bel0⟩⟩
   ·replace c19 := Bool.eq_false_iff.mpr c19
    subst c19
    rw [if_neg (show ¬ (false = true) by decide)] at H
    have H' := Aside0.mk H
    clear H
    go_wp2
    go_meet
    case rel => exact ⟨_, (true), (by first | rfl | (simp; done) | (simp [*]; done)), H', ⟨by first | omega | exact Nat.le_refl _⟩, ⟨by exact blk_nw BK312.out⟩, ⟨by exact blk_nw BK313.out⟩, ⟨by exact blk_nw BK314.out⟩, ⟨by exact bel0⟩⟩
  ·replace c13 := Bool.eq_false_iff.mpr c13
   subst c13
   rw [if_neg (show ¬ (false = true) by decide)] at H
   have H' := Aside0.mk H
   clear H
   go_wp2
   go_meet
   case rel => exact ⟨_, (true), (by first | rfl | (simp; done) | (simp [*]; done)), H', ⟨by first | omega | exact Nat.le_refl _⟩, ⟨by exact blk_nw BK312.out⟩, ⟨by exact blk_nw BK313.out⟩, ⟨by exact blk_nw BK314.out⟩, ⟨by exact bel0⟩⟩
 case rest =>
  clear HC4; try clear c1; try clear p2; try clear c5; try clear c9; try clear c10; try clear c12; try clear c13; try clear c15; try clear c16; try clear c19; try clear hcz11_0; try clear hcz11_1; try clear hcz11_2; try clear hcz11_3; try clear hcz11_4; try clear hcz11_5; try clear hcz17_0; try clear hcz17_1; try clear hfz11_0; try clear hfz11_1; try clear hfz11_2; try clear hfz11_3; try clear hfz11_4; try clear hfz11_5; try clear hfz17_0; try clear hfz17_1
  obtain ⟨kq, x22_3, rfl, HA, HJ3, BK312, BK313, BK314, HB⟩ := hcut
  cases kq with
  | zero => exact absurd HA.out (by simp [impl_Helpers.j0])
  | succ kj3 =>
   have H := HA.out; clear HA
   simp only [impl_Helpers.j0] at H
   by_cases c21 : x22_3 = true
   ·subst c21; rw [if_pos rfl] at H; simp only [Option.some.injEq, Prod.mk.injEq] at H; obtain ⟨rfl, rfl, rfl, rfl, rfl, rfl, rfl⟩ := H; have hnb22 := NB314_312.out; have hnc22 := NB312_314.out; have hnb23 := NB314_313.out; have hnc23 := NB313_314.out; obtain ⟨hcz24_0, hcz24_1, hcz24_2, hcz24_3, hcz24_4, hcz24_5⟩ := blkz6 BK314.out; have hfz24_0 := blkf BK314.out
    go_wp2_with (first | ((with_reducible refine gate_store (t := 90) (p := 6) rfl ?_); refine store_event (t := 90) (p := 6) (v := ?vo_w25) (w1 := ((((((wc.setCell ⟨gb314, 0, none⟩ (.slice none 0 0)).setCell ⟨gb314, 1, none⟩ (.int .i64 0)).setCell ⟨gb314, 2, none⟩ (.int .i64 0)).setCell ⟨gb314, 3, none⟩ (.int .i64 0)).setCell ⟨gb314, 4, none⟩ (.int .i64 0)).setCell ⟨gb314, 5, none⟩ (.int .i64 0))) ?hg ?ho ?hn ?hr ?_; (case ho => rfl); (case hg => rfl); (case hn => rfl); (case hr => first | (go_simp; done) | (go_simp; rfl)); intro w25 hw; have n0_ : Aside0 (w25.heap[gb312]? = some (.cells #[.slice A0_0 l0_0.length c0_0, .int .i64 a0_1, .int .i64 a0_2, .int .i64 a0_3, .int .i64 a0_4, .int .i64 a0_5] 90 (0, 0))) := ⟨(by rw [hw]; exact (by exact blk_kb BK312.out NB312_314.out))⟩; have n1_ : Aside0 (w25.heap[gb313]? = some (.cells #[.int .i64 a1_0, .slice A1_1 l1_1.length c1_1] 41 (0, 0))) := ⟨(by rw [hw]; exact (by exact blk_kb BK313.out NB313_314.out))⟩; have n2_ : Aside0 (w25.heap[gb314]? = some (.cells #[.slice none 0 0, .int .i64 0, .int .i64 0, .int .i64 0, .int .i64 0, .int .i64 0] 90 (0, 0))) := ⟨(by rw [hw]; exact (by (with_reducible repeat (first | refine blk_drewN ?_ _ | refine blk_drew ?_ | refine blk_alloc ?_ _)); exact blk_fill6 BK314.out))⟩; have n3_ : Aside0 (Below w.heap.size w w25) := ⟨(by rw [hw]; exact (by exact bel0))⟩; clear hw; clear BK312; clear BK313; clear BK314; clear HB; have BK312 := n0_; have BK313 := n1_; have BK314 := n2_; have HB := n3_; clear n0_ n1_ n2_ n3_))
    refine bodyPost_ret (results_ct rfl _ _ gb314 90 #[.slice none 0 0, .int .i64 0, .int .i64 0, .int .i64 0, .int .i64 0, .int .i64 0] (0, 0) _ rfl (by exact blk_nw BK314.out) Try.underlying90 rfl (by kernel_rfl)) rfl ?_
    exact ⟨_, _, by first | rfl | (simp [errW_none, errW_some] <;> rfl) | (simp [*, errW_none, errW_some] <;> rfl), by first | exact Kd.R_nil _ _ _ _ _ | exact Kd.N_nil _ _ _ _ _ | exact Kd.V_nil _ _ _ _ _ | exact Kd.Q_nil _ _ _ _ _ | exact Kd.S_nil _ _ _ _ _, by first | exact Kd.R_nil _ _ _ _ _ | exact Kd.N_nil _ _ _ _ _ | exact Kd.V_nil _ _ _ _ _ | exact Kd.Q_nil _ _ _ _ _ | exact Kd.S_nil _ _ _ _ _, by exact bel0⟩
   ·replace c21 := Bool.eq_false_iff.mpr c21
    subst c21
    rw [if_neg (show ¬ (false = true) by decide)] at H
    replace H := Option.bind_eq_some_iff.mp H
    obtain ⟨⟨t318, t321, t322, t323, t324, t325⟩, A260, H⟩ := H
    replace H : ((impl_Prober_helpers.f kj3 t318 t321 t322 t323 t324 t325 a1_0 l1_1 a2).bind fun bt327 => (some (bt327.2.1, bt327.2.2.1, bt327.2.2.2.1, bt327.2.2.2.2.1, bt327.2.2.2.2.2.1, bt327.2.2.2.2.2.2, bt327.1))) = some (r1, r2, r3, r4, r5, r6, r7) := H
    have A26 := Aside0.mk A260; clear A260; replace H := Option.bind_eq_some_iff.mp H
    obtain ⟨⟨t327, t330, t333, t334, t335, t336, t337⟩, A270, H⟩ := H
    replace H : (some (t330, t333, t334, t335, t336, t337, t327)) = some (r1, r2, r3, r4, r5, r6, r7) := H
    have A27 := Aside0.mk A270; clear A270; simp only [Option.some.injEq, Prod.mk.injEq] at H; obtain ⟨rfl, rfl, rfl, rfl, rfl, rfl, rfl⟩ := H; have hnb28 := NB312_313.out; have hnc28 := NB313_312.out; have hnb29 := NB312_314.out; have hnc29 := NB314_312.out; obtain ⟨hcz30_0, hcz30_1, hcz30_2, hcz30_3, hcz30_4, hcz30_5⟩ := blkz6 BK312.out; have hfz30_0 := blkf BK312.out
    go_wp2_with (first | ((with_reducible refine gate_callee (f := 123) rfl ?_); refine goesL_ (some 25) rfl rfl Try.func123 (by kernel_rfl) rfl #[.agg #[.slice A0_0 l0_0.length c0_0, .int .i64 a0_1, .int .i64 a0_2, .int .i64 a0_3, .int .i64 a0_4, .int .i64 a0_5]] rfl (by (try simp only [List.map_toArray, List.map_cons, List.map_nil]); first | done | rfl | (simp only [List.length_drop, List.length_take]; rfl)) ?_; (with_reducible refine (impl_Prober_own.calls _ _ l0_0 a0_1 a0_2 a0_3 a0_4 a0_5 t318 t321 t322 t323 t324 t325 _ ?side1 ?side2 A26.out).mono ?_); (case side1 => repeat (first | exact (Kd.C_below HR0_0.out HB.out) | (with_reducible refine Kd.C_alloc ?_ _) | (with_reducible refine Kd.C_drewN ?_ _) | (with_reducible refine Kd.C_drew ?_))); (case side2 => exact HC0_0.out); rintro e w31 ⟨v319, rfl, ho0, hb⟩; refine ⟨_, rfl, ?_⟩; have n_ := an (Kd.R_lower ho0 (below_size (by exact bel0))) (an (blk_below (blk_nw BK312.out) hb) (an (blk_below (blk_nw BK313.out) hb) (an (blk_below (blk_nw BK314.out) hb) (an (below_step (by exact bel0) hb) (trivial))))); clear BK312 BK313 BK314 HB; obtain ⟨HO320, BK312, BK313, BK314, HB, -⟩ := n_; (try clear hb); (try clear hb2); (try clear hk); (try clear hi); (try clear ho0)) | ((with_reducible refine gate_dst (N := 8) rfl ?_); refine box_event ?hg (N := 8) ?hd (cs := #[.slice none 0 0, .int .i64 0, .int .i64 0, .int .i64 0, .int .i64 0, .int .i64 0]) (t := 90) ?hr ?_; (case hd => rfl); (case hg => rfl); (case hr => first | (go_simp; done) | (go_simp; rfl)); intro gb326 hg w32 hbox hb; have n_ := an (Kd.R_below (by exact Kd.R_nw HO320.out) hb) (an (blk_below (blk_nw BK312.out) hb) (an (blk_below (blk_nw BK313.out) hb) (an (blk_below (blk_nw BK314.out) hb) (an (below_step (by exact bel0) hb) (an (hbox) (an ((by rw [hg]; exact (below_size (by exact bel0)) : w.heap.size ≤ gb326)) (an ((by rw [hg]; exact (below_size (by exact bel0)) : w.heap.size ≤ gb326)) (an ((by rw [hg]; exact Nat.ne_of_lt (blk_lt (blk_nw BK312.out)) : gb312 ≠ gb326)) (an ((by rw [hg]; exact Nat.ne_of_gt (blk_lt (blk_nw BK312.out)) : gb326 ≠ gb312)) (an ((by rw [hg]; exact Nat.ne_of_lt (blk_lt (blk_nw BK313.out)) : gb313 ≠ gb326)) (an ((by rw [hg]; exact Nat.ne_of_gt (blk_lt (blk_nw BK313.out)) : gb326 ≠ gb313)) (an ((by rw [hg]; exact Nat.ne_of_lt (blk_lt (blk_nw BK314.out)) : gb314 ≠ gb326)) (an ((by rw [hg]; exact Nat.ne_of_gt (blk_lt (blk_nw BK314.out)) : gb326 ≠ gb314)) (trivial)))))))))))))); clear HO320 BK312 BK313 BK314 HB; obtain ⟨HO320, BK312, BK313, BK314, HB, BK326, GW326, GE326, NB312_326, NB326_312, NB313_326, NB326_313, NB314_326, NB326_314, -⟩ := n_; clear hb hbox hg; obtain ⟨Ao33, co33, eo33⟩ := Kd.R_slice HO320.out; subst eo33; have hnb34 := NB326_312.out; have hnc34 := NB312_326.out; have hnb35 := NB326_313.out; have hnc35 := NB313_326.out; have hnb36 := NB326_314.out; have hnc36 := NB314_326.out; obtain ⟨hcz37_0, hcz37_1, hcz37_2, hcz37_3, hcz37_4, hcz37_5⟩ := blkz6 BK326.out; have hfz37_0 := blkf BK326.out) | ((with_reducible refine gate_store (t := 90) (p := 8) rfl ?_); refine store_event (t := 90) (p := 8) (v := ?vo_w38) (w1 := ((((((w32.setCell ⟨gb326, 0, none⟩ (.slice Ao33 t318.length co33)).setCell ⟨gb326, 1, none⟩ (.int .i64 t321)).setCell ⟨gb326, 2, none⟩ (.int .i64 t322)).setCell ⟨gb326, 3, none⟩ (.int .i64 t323)).setCell ⟨gb326, 4, none⟩ (.int .i64 t324)).setCell ⟨gb326, 5, none⟩ (.int .i64 t325))) ?hg ?ho ?hn ?hr ?_; (case ho => rfl); (case hg => rfl); (case hn => rfl); (case hr => first | (go_simp; done) | (go_simp; rfl)); intro w38 hw; have n0_ : Aside0 (Kd.R (Kd.int .i64) 3 w38 w.heap.size (fun _ => True) (.slice Ao33 t318.length co33) t318) := ⟨(by rw [hw]; exact (by exact (Kd.R_farN HO320.out BK326.out)))⟩; have n1_ : Aside0 (w38.heap[gb312]? = some (.cells #[.slice A0_0 l0_0.length c0_0, .int .i64 a0_1, .int .i64 a0_2, .int .i64 a0_3, .int .i64 a0_4, .int .i64 a0_5] 90 (0, 0))) := ⟨(by rw [hw]; exact (by exact blk_kb BK312.out NB312_326.out))⟩; have n2_ : Aside0 (w38.heap[gb313]? = some (.cells #[.int .i64 a1_0, .slice A1_1 l1_1.length c1_1] 41 (0, 0))) := ⟨(by rw [hw]; exact (by exact blk_kb BK313.out NB313_326.out))⟩; have n3_ : Aside0 (w38.heap[gb314]? = some (.cells #[.slice none 0 0, .int .i64 0, .int .i64 0, .int .i64 0, .int .i64 0, .int .i64 0] 90 (0, 0))) := ⟨(by rw [hw]; exact (by exact blk_kb BK314.out NB314_326.out))⟩; have n4_ : Aside0 (w38.heap[gb326]? = some (.cells #[.slice Ao33 t318.length co33, .int .i64 t321, .int .i64 t322, .int .i64 t323, .int .i64 t324, .int .i64 t325] 90 (0, 0))) := ⟨(by rw [hw]; exact (by (with_reducible repeat (first | refine blk_drewN ?_ _ | refine blk_drew ?_ | refine blk_alloc ?_ _)); exact blk_fill6 BK326.out))⟩; have n5_ : Aside0 (Below w.heap.size w w38) := ⟨(by rw [hw]; exact (by exact bel0))⟩; clear hw; clear HO320; clear BK312; clear BK313; clear BK314; clear BK326; clear HB; have HO320 := n0_; have BK312 := n1_; have BK313 := n2_; have BK314 := n3_; have BK326 := n4_; have HB := n5_; clear n0_ n1_ n2_ n3_ n4_ n5_; have hnb39 := NB313_314.out; have hnc39 := NB314_313.out; obtain ⟨hcz40_0, hcz40_1⟩ := blkz2 BK313.out; have hfz40_0 := blkf BK313.out) | ((with_reducible refine gate_callee (f := 124) rfl ?_); refine goesL_ (some 28) rfl rfl Try.func124 (by kernel_rfl) rfl #[.pointer (some ⟨gb326, 0, none⟩), .agg #[.int .i64 a1_0, .slice A1_1 l1_1.length c1_1], .int .i64 a2] rfl (by (try simp only [List.map_toArray, List.map_cons, List.map_nil]); first | done | rfl | (simp only [List.length_drop, List.length_take]; rfl)) ?_; (with_reducible refine (impl_Prober_helpers.calls kj3 gb326 (fun k_ => some k_ = (.slice Ao33 t318.length co33 : Value).ownBlock) (.slice Ao33 t318.length co33) t318 t321 t322 t323 t324 t325 a1_0 _ _ l1_1 a2 t327 t330 t333 t334 t335 t336 t337 w _ ?side1 ?side2 ?side3 ?side4 ?side5 ?side6 A27.out).mono ?_); (case side1 => exact bel0); (case side2 => exact blk_nw BK326.out); (case side3 => exact GE326.out); (case side4 => exact Kd.R_tight rfl HO320.out); (case side5 => exact Kd.C_kept_came k82_heap HR1_1.out (by exact bel0) (fun k_ hs_ => Or.elim hs_ (fun hs_ => (fun e_ => Kd.R_base HO320.out k_ e_.symm) hs_) (fun e_ => (by rw [e_]; exact GE326.out)))); (case side6 => exact HC1_1.out); rintro e w41 ⟨v328, rfl, v331, ho0, ho1, hi, hb, hkp⟩; refine ⟨_, rfl, ?_⟩; have n_ := an (blk_kept (by exact blk_nw BK312.out) hkp (fun hs_ => Or.elim hs_ (fun hs_ => (fun e_ => (Kd.R_ne HO320.out BK312.out (by decide)) e_) hs_) (fun e_ => NB312_326.out e_))) (an (blk_kept (by exact blk_nw BK313.out) hkp (fun hs_ => Or.elim hs_ (fun hs_ => (fun e_ => (Kd.R_ne HO320.out BK313.out (by decide)) e_) hs_) (fun e_ => NB313_326.out e_))) (an (blk_kept (by exact blk_nw BK314.out) hkp (fun hs_ => Or.elim hs_ (fun hs_ => (fun e_ => (Kd.R_ne HO320.out BK314.out (by decide)) e_) hs_) (fun e_ => NB314_326.out e_))) (an (hi) (an (Kd.R_mono (ok' := fun k_ => some k_ ≠ (v331 : Value).ownBlock) ho0 (fun k_ hk_ => hk_.2)) (an (Kd.R_mono (ok' := fun k_ => some k_ ≠ (v328 : Value).ownBlock) ho1 (fun k_ hk_ => hk_.2)) (an (hb) (trivial))))))); clear BK312 BK313 BK314 BK326 HB HO320; obtain ⟨BK312, BK313, BK314, BK326, HO329, HO332, HB, -⟩ := n_; (try clear hb); (try clear hkp); (try clear ho0); (try clear ho1); obtain ⟨hcz42_0, hcz42_1, hcz42_2, hcz42_3, hcz42_4, hcz42_5⟩ := blkz6 BK326.out; have hfz42_0 := blkf BK326.out; obtain ⟨Ao43, co43, eo43⟩ := Kd.R_slice HO332.out; subst eo43; obtain ⟨hcz44_0, hcz44_1, hcz44_2, hcz44_3, hcz44_4, hcz44_5⟩ := blkz6 BK314.out; have hfz44_0 := blkf BK314.out) | ((with_reducible refine gate_store (t := 90) (p := 6) rfl ?_); refine store_event (t := 90) (p := 6) (v := ?vo_w45) (w1 := ((((((w41.setCell ⟨gb314, 0, none⟩ (.slice Ao43 t330.length co43)).setCell ⟨gb314, 1, none⟩ (.int .i64 t333)).setCell ⟨gb314, 2, none⟩ (.int .i64 t334)).setCell ⟨gb314, 3, none⟩ (.int .i64 t335)).setCell ⟨gb314, 4, none⟩ (.int .i64 t336)).setCell ⟨gb314, 5, none⟩ (.int .i64 t337))) ?hg ?ho ?hn ?hr ?_; (case ho => rfl); (case hg => rfl); (case hn => rfl); (case hr => first | (go_simp; done) | (go_simp; rfl)); intro w45 hw; have n0_ : Aside0 (Kd.R (Kd.int .i64) 3 w45 w.heap.size (fun k_ => some k_ ≠ (.slice Ao43 t330.length co43 : Value).ownBlock) v328 t327) := ⟨(by rw [hw]; exact (by exact (Kd.R_farN HO329.out BK314.out)))⟩; have n1_ : Aside0 (Kd.R (Kd.int .i64) 3 w45 w.heap.size (fun k_ => some k_ ≠ (v328 : Value).ownBlock) (.slice Ao43 t330.length co43) t330) := ⟨(by rw [hw]; exact (by exact (Kd.R_farN HO332.out BK314.out)))⟩; have n2_ : Aside0 (w45.heap[gb312]? = some (.cells #[.slice A0_0 l0_0.length c0_0, .int .i64 a0_1, .int .i64 a0_2, .int .i64 a0_3, .int .i64 a0_4, .int .i64 a0_5] 90 (0, 0))) := ⟨(by rw [hw]; exact (by exact blk_kb BK312.out NB312_314.out))⟩; have n3_ : Aside0 (w45.heap[gb313]? = some (.cells #[.int .i64 a1_0, .slice A1_1 l1_1.length c1_1] 41 (0, 0))) := ⟨(by rw [hw]; exact (by exact blk_kb BK313.out NB313_314.out))⟩; have n4_ : Aside0 (w45.heap[gb314]? = some (.cells #[.slice Ao43 t330.length co43, .int .i64 t333, .int .i64 t334, .int .i64 t335, .int .i64 t336, .int .i64 t337] 90 (0, 0))) := ⟨(by rw [hw]; exact (by (with_reducible repeat (first | refine blk_drewN ?_ _ | refine blk_drew ?_ | refine blk_alloc ?_ _)); exact blk_fill6 BK314.out))⟩; have n5_ : Aside0 (w45.heap[gb326]? = some (.cells #[.slice Ao43 t330.length co43, .int .i64 t333, .int .i64 t334, .int .i64 t335, .int .i64 t336, .int .i64 t337] 90 (0, 0))) := ⟨(by rw [hw]; exact (by exact blk_kb BK326.out NB326_314.out))⟩; have n6_ : Aside0 (Below w.heap.size w w45) := ⟨(by rw [hw]; exact (by exact bel0))⟩; clear hw; clear HO329; clear HO332; clear BK312; clear BK313; clear BK314; clear BK326; clear HB; have HO329 := n0_; have HO332 := n1_; have BK312 := n2_; have BK313 := n3_; have BK314 := n4_; have BK326 := n5_; have HB := n6_; clear n0_ n1_ n2_ n3_ n4_ n5_ n6_))
    refine bodyPost_ret (results_ct rfl _ _ gb314 90 #[.slice Ao43 t330.length co43, .int .i64 t333, .int .i64 t334, .int .i64 t335, .int .i64 t336, .int .i64 t337] (0, 0) _ rfl (by exact blk_nw BK314.out) Try.underlying90 rfl (by kernel_rfl)) rfl ?_
    exact ⟨_, _, by first | rfl | (simp [errW_none, errW_some] <;> rfl) | (simp [*, errW_none, errW_some] <;> rfl), by exact Kd.R_nw HO332.out, by exact Kd.R_nw HO329.out, by exact bel0⟩

/-! ### laws_eqProber: function 60 -/
def laws_eqProber.f (k : Nat) (l0_0 : List Int) (a0_1 : Int) (a0_2 : Int) (a0_3 : Int) (a0_4 : Int) (a0_5 : Int) (l1_0 : List Int) (a1_1 : Int) (a1_2 : Int) (a1_3 : Int) (a1_4 : Int) (a1_5 : Int) : Option (Bool) := (laws_eqIntS.f k l0_0 l1_0).bind fun t340 => (if t340 = true then (if a0_1 = a1_1 then (if a0_2 = a1_2 then (if a0_3 = a1_3 then (if a0_4 = a1_4 then (if a0_5 = a1_5 then (some true) else (some false)) else (some false)) else (some false)) else (some false)) else (some false)) else (some false))
theorem laws_eqProber.mono : ∀ a0 a1 a2 a3 a4 a5 a6 a7 a8 a9 a10 a11 k, LeO (laws_eqProber.f k a0 a1 a2 a3 a4 a5 a6 a7 a8 a9 a10 a11) (laws_eqProber.f (k + 1) a0 a1 a2 a3 a4 a5 a6 a7 a8 a9 a10 a11) := by
 intro a0 a1 a2 a3 a4 a5 a6 a7 a8 a9 a10 a11 k
 unfold laws_eqProber.f
 repeat' first
   | (with_reducible exact laws_eqIntS.mono _ _ _)
   | (with_reducible exact LeO.refl _)
   | (with_reducible exact LeO.none _)
   | (with_reducible refine LeO.ite ?_ ?_)
   | (with_reducible refine LeO.bind ?_ (fun _ => ?_))
   | exact laws_eqIntS.mono _ _ _
   | exact LeO.none _
   | refine LeO.ite ?_ ?_
   | refine LeO.bind ?_ (fun _ => ?_)
set_option maxHeartbeats 8000000 in
set_option maxRecDepth 100000 in
theorem laws_eqProber.calls (k : Nat) (A0_0 : Option Addr) (c0_0 : Nat) (l0_0 : List Int) (a0_1 : Int) (a0_2 : Int) (a0_3 : Int) (a0_4 : Int) (a0_5 : Int) (A1_0 : Option Addr) (c1_0 : Nat) (l1_0 : List Int) (a1_1 : Int) (a1_2 : Int) (a1_3 : Int) (a1_4 : Int) (a1_5 : Int) (r : Bool) (w : World) (hr0_0 : Kd.C (Kd.int .i64) w A0_0 l0_0.length l0_0) (hc0_0 : l0_0.length ≤ c0_0) (hr1_0 : Kd.C (Kd.int .i64) w A1_0 l1_0.length l1_0) (hc1_0 : l1_0.length ≤ c1_0) (h : laws_eqProber.f k l0_0 a0_1 a0_2 a0_3 a0_4 a0_5 l1_0 a1_1 a1_2 a1_3 a1_4 a1_5 = some r) :
  Calls Try.prog 60 #[.agg #[.slice A0_0 l0_0.length c0_0, .int .i64 a0_1, .int .i64 a0_2, .int .i64 a0_3, .int .i64 a0_4, .int .i64 a0_5], .agg #[.slice A1_0 l1_0.length c1_0, .int .i64 a1_1, .int .i64 a1_2, .int .i64 a1_3, .int .i64 a1_4, .int .i64 a1_5]] w fun e w' => e = .returned (.bool r) ∧ Below w.heap.size w w' := by
 have hu90 := Try.underlying90
 have HR0_0 := Aside0.mk hr0_0; have HC0_0 := Aside0.mk hc0_0; clear hr0_0 hc0_0; have HR1_0 := Aside0.mk hr1_0; have HC1_0 := Aside0.mk hc1_0; clear hr1_0 hc1_0
 have HB := Aside0.mk (Below.refl w.heap.size w)
 have H : ((laws_eqIntS.f k l0_0 l1_0).bind fun t340 => (if t340 = true then (if a0_1 = a1_1 then (if a0_2 = a1_2 then (if a0_3 = a1_3 then (if a0_4 = a1_4 then (if a0_5 = a1_5 then (some true) else (some false)) else (some false)) else (some false)) else (some false)) else (some false)) else (some false))) = some r := h
 clear h; replace H := Option.bind_eq_some_iff.mp H; obtain ⟨t340, A30, H⟩ := H; have A3 := Aside0.mk A30; clear A30; go_enter Try.func60, Try.ntmps60
 replace H := Aside0.mk H
 go_wp2_with (first | ((with_reducible refine gate_dst (N := 2) rfl ?_); refine box_event ?hg (N := 2) ?hd (cs := #[.slice A0_0 l0_0.length c0_0, .int .i64 a0_1, .int .i64 a0_2, .int .i64 a0_3, .int .i64 a0_4, .int .i64 a0_5]) (t := 90) ?hr ?_; (case hd => rfl); (case hg => rfl); (case hr => first | (go_simp; done) | (go_simp; rfl)); intro gb338 hg w4 hbox hb; have n_ := an (below_step (by exact bel0) hb) (an (hbox) (an ((by rw [hg]; exact (below_size (by exact bel0)) : w.heap.size ≤ gb338)) (an ((by rw [hg]; exact (below_size (by exact bel0)) : w.heap.size ≤ gb338)) (trivial)))); clear HB; obtain ⟨HB, BK338, GW338, GE338, -⟩ := n_; clear hb hbox hg) | ((with_reducible refine gate_dst (N := 3) rfl ?_); refine box_event ?hg (N := 3) ?hd (cs := #[.slice A1_0 l1_0.length c1_0, .int .i64 a1_1, .int .i64 a1_2, .int .i64 a1_3, .int .i64 a1_4, .int .i64 a1_5]) (t := 90) ?hr ?_; (case hd => rfl); (case hg => rfl); (case hr => first | (go_simp; done) | (go_simp; rfl)); intro gb339 hg w5 hbox hb; have n_ := an (blk_below (blk_nw BK338.out) hb) (an (below_step (by exact bel0) hb) (an (hbox) (an ((by rw [hg]; exact (below_size (by exact bel0)) : w.heap.size ≤ gb339)) (an ((by rw [hg]; exact (below_size (by exact bel0)) : w.heap.size ≤ gb339)) (an ((by rw [hg]; exact Nat.ne_of_lt (blk_lt (blk_nw BK338.out)) : gb338 ≠ gb339)) (an ((by rw [hg]; exact Nat.ne_of_gt (blk_lt (blk_nw BK338.out)) : gb339 ≠ gb338)) (trivial))))))); clear BK338 HB; obtain ⟨BK338, HB, BK339, GW339, GE339, NB338_339, NB339_338, -⟩ := n_; clear hb hbox hg; have hnb6 := NB338_339.out; have hnc6 := NB339_338.out; obtain ⟨hcz7_0, hcz7_1, hcz7_2, hcz7_3, hcz7_4, hcz7_5⟩ := blkz6 BK338.out; have hfz7_0 := blkf BK338.out; obtain ⟨hcz8_0, hcz8_1, hcz8_2, hcz8_3, hcz8_4, hcz8_5⟩ := blkz6 BK339.out; have hfz8_0 := blkf BK339.out) | ((with_reducible refine gate_callee (f := 43) rfl ?_); refine goesL_ (some 9) rfl rfl Try.func43 (by kernel_rfl) rfl #[.slice A0_0 l0_0.length c0_0, .slice A1_0 l1_0.length c1_0] rfl (by (try simp only [List.map_toArray, List.map_cons, List.map_nil]); first | done | rfl | (simp only [List.length_drop, List.length_take]; rfl)) ?_; (with_reducible refine (laws_eqIntS.calls k _ _ l0_0 _ _ l1_0 t340 _ ?side1 ?side2 ?side3 ?side4 A3.out).mono ?_); (case side1 => repeat (first | exact (Kd.C_below HR0_0.out HB.out) | (with_reducible refine Kd.C_alloc ?_ _) | (with_reducible refine Kd.C_drewN ?_ _) | (with_reducible refine Kd.C_drew ?_))); (case side2 => exact HC0_0.out); (case side3 => repeat (first | exact (Kd.C_below HR1_0.out HB.out) | (with_reducible refine Kd.C_alloc ?_ _) | (with_reducible refine Kd.C_drewN ?_ _) | (with_reducible refine Kd.C_drew ?_))); (case side4 => exact HC1_0.out); rintro e w' ⟨rfl, ⟨nd, rfl⟩⟩; refine ⟨_, rfl, ?_⟩; refine Stop.out ?_))
 refine Stop.mk ?_
 replace H := H.out
 by_cases c9 : t340 = true
 ·subst c9; rw [if_pos rfl] at H
  by_cases c10 : a0_1 = a1_1
  ·rw [if_pos c10] at H; have c10b0 : (a0_1 == a1_1) = true := beq_iff_eq.mpr c10; have c10b1 : (a0_1 != a1_1) = false := bne_eq_false_iff_eq.mpr c10; clear c10
   by_cases c11 : a0_2 = a1_2
   ·rw [if_pos c11] at H; have c11b0 : (a0_2 == a1_2) = true := beq_iff_eq.mpr c11; have c11b1 : (a0_2 != a1_2) = false := bne_eq_false_iff_eq.mpr c11; clear c11
    by_cases c12 : a0_3 = a1_3
    ·rw [if_pos c12] at H; have c12b0 : (a0_3 == a1_3) = true := beq_iff_eq.mpr c12; have c12b1 : (a0_3 != a1_3) = false := bne_eq_false_iff_eq.mpr c12; clear c12
     by_cases c13 : a0_4 = a1_4
     ·rw [if_pos c13] at H; have c13b0 : (a0_4 == a1_4) = true := beq_iff_eq.mpr c13; have c13b1 : (a0_4 != a1_4) = false := bne_eq_false_iff_eq.mpr c13; clear c13
      by_cases c14 : a0_5 = a1_5
      ·rw [if_pos c14] at H; have c14b0 : (a0_5 == a1_5) = true := beq_iff_eq.mpr c14; have c14b1 : (a0_5 != a1_5) = false := bne_eq_false_iff_eq.mpr c14; clear c14
       obtain rfl := Option.some.inj H
       have hnb15 := NB338_339.out; have hnc15 := NB339_338.out; obtain ⟨hcz16_0, hcz16_1, hcz16_2, hcz16_3, hcz16_4, hcz16_5⟩ := blkz6 BK338.out; have hfz16_0 := blkf BK338.out; obtain ⟨hcz17_0, hcz17_1, hcz17_2, hcz17_3, hcz17_4, hcz17_5⟩ := blkz6 BK339.out; have hfz17_0 := blkf BK339.out
       go_wp2
       go_ret
       exact ⟨by first | rfl | (simp [errW_none, errW_some] <;> rfl) | (simp [*, errW_none, errW_some] <;> rfl), by exact bel0⟩
      ·rw [if_neg c14] at H; have c14b0 : (a0_5 == a1_5) = false := beq_eq_false_iff_ne.mpr c14; have c14b1 : (a0_5 != a1_5) = true := bne_iff_ne.mpr c14
       obtain rfl := Option.some.inj H
       have hnb18 := NB338_339.out; have hnc18 := NB339_338.out; obtain ⟨hcz19_0, hcz19_1, hcz19_2, hcz19_3, hcz19_4, hcz19_5⟩ := blkz6 BK338.out; have hfz19_0 := blkf BK338.out; obtain ⟨hcz20_0, hcz20_1, hcz20_2, hcz20_3, hcz20_4, hcz20_5⟩ := blkz6 BK339.out; have hfz20_0 := blkf BK339.out
       go_wp2
       go_ret
       exact ⟨by first | rfl | (simp [errW_none, errW_some] <;> rfl) | (simp [*, errW_none, errW_some] <;> rfl), by exact bel0⟩
     ·rw [if_neg c13] at H; have c13b0 : (a0_4 == a1_4) = false := beq_eq_false_iff_ne.mpr c13; have c13b1 : (a0_4 != a1_4) = true := bne_iff_ne.mpr c13
      obtain rfl := Option.some.inj H
      have hnb21 := NB338_339.out; have hnc21 := NB339_338.out; obtain ⟨hcz22_0, hcz22_1, hcz22_2, hcz22_3, hcz22_4, hcz22_5⟩ := blkz6 BK338.out; have hfz22_0 := blkf BK338.out; obtain ⟨hcz23_0, hcz23_1, hcz23_2, hcz23_3, hcz23_4, hcz23_5⟩ := blkz6 BK339.out; have hfz23_0 := blkf BK339.out
      go_wp2
      go_ret
      exact ⟨by first | rfl | (simp [errW_none, errW_some] <;> rfl) | (simp [*, errW_none, errW_some] <;> rfl), by exact bel0⟩
    ·rw [if_neg c12] at H; have c12b0 : (a0_3 == a1_3) = false := beq_eq_false_iff_ne.mpr c12; have c12b1 : (a0_3 != a1_3) = true := bne_iff_ne.mpr c12
     obtain rfl := Option.some.inj H
     have hnb24 := NB338_339.out; have hnc24 := NB339_338.out; obtain ⟨hcz25_0, hcz25_1, hcz25_2, hcz25_3, hcz25_4, hcz25_5⟩ := blkz6 BK338.out; have hfz25_0 := blkf BK338.out; obtain ⟨hcz26_0, hcz26_1, hcz26_2, hcz26_3, hcz26_4, hcz26_5⟩ := blkz6 BK339.out; have hfz26_0 := blkf BK339.out
     go_wp2
     go_ret
     exact ⟨by first | rfl | (simp [errW_none, errW_some] <;> rfl) | (simp [*, errW_none, errW_some] <;> rfl), by exact bel0⟩
   ·rw [if_neg c11] at H; have c11b0 : (a0_2 == a1_2) = false := beq_eq_false_iff_ne.mpr c11; have c11b1 : (a0_2 != a1_2) = true := bne_iff_ne.mpr c11
    obtain rfl := Option.some.inj H
    have hnb27 := NB338_339.out; have hnc27 := NB339_338.out; obtain ⟨hcz28_0, hcz28_1, hcz28_2, hcz28_3, hcz28_4, hcz28_5⟩ := blkz6 BK338.out; have hfz28_0 := blkf BK338.out; obtain ⟨hcz29_0, hcz29_1, hcz29_2, hcz29_3, hcz29_4, hcz29_5⟩ := blkz6 BK339.out; have hfz29_0 := blkf BK339.out
    go_wp2
    go_ret
    exact ⟨by first | rfl | (simp [errW_none, errW_some] <;> rfl) | (simp [*, errW_none, errW_some] <;> rfl), by exact bel0⟩
  ·rw [if_neg c10] at H; have c10b0 : (a0_1 == a1_1) = false := beq_eq_false_iff_ne.mpr c10; have c10b1 : (a0_1 != a1_1) = true := bne_iff_ne.mpr c10
   obtain rfl := Option.some.inj H
   have hnb30 := NB338_339.out; have hnc30 := NB339_338.out; obtain ⟨hcz31_0, hcz31_1, hcz31_2, hcz31_3, hcz31_4, hcz31_5⟩ := blkz6 BK338.out; have hfz31_0 := blkf BK338.out; obtain ⟨hcz32_0, hcz32_1, hcz32_2, hcz32_3, hcz32_4, hcz32_5⟩ := blkz6 BK339.out; have hfz32_0 := blkf BK339.out
   go_wp2
   go_ret
   exact ⟨by first | rfl | (simp [errW_none, errW_some] <;> rfl) | (simp [*, errW_none, errW_some] <;> rfl), by exact bel0⟩
 ·replace c9 := Bool.eq_false_iff.mpr c9
  subst c9
  rw [if_neg (show ¬ (false = true) by decide)] at H
  obtain rfl := Option.some.inj H
  go_wp2
  go_ret
  exact ⟨by first | rfl | (simp [errW_none, errW_some] <;> rfl) | (simp [*, errW_none, errW_some] <;> rfl), by exact bel0⟩

/-! ### laws_markProber: function 61 -/
def laws_markProber.f (k : Nat) (l0_0 : List Int) (a0_1 : Int) (a0_2 : Int) (a0_3 : Int) (a0_4 : Int) (a0_5 : Int) (a1 : Int) : Option (Int × List Int) := (laws_markIntS.f k l0_0 a1).bind fun bt342 => (some (bt342.1, bt342.2))
theorem laws_markProber.mono : ∀ a0 a1 a2 a3 a4 a5 a6 k, LeO (laws_markProber.f k a0 a1 a2 a3 a4 a5 a6) (laws_markProber.f (k + 1) a0 a1 a2 a3 a4 a5 a6) := by
 intro a0 a1 a2 a3 a4 a5 a6 k
 unfold laws_markProber.f
 repeat' first
   | (with_reducible exact laws_markIntS.mono _ _ _)
   | (with_reducible exact LeO.refl _)
   | (with_reducible exact LeO.none _)
   | (with_reducible refine LeO.ite ?_ ?_)
   | (with_reducible refine LeO.bind ?_ (fun _ => ?_))
   | exact laws_markIntS.mono _ _ _
   | exact LeO.none _
   | refine LeO.ite ?_ ?_
   | refine LeO.bind ?_ (fun _ => ?_)
set_option maxHeartbeats 8000000 in
set_option maxRecDepth 100000 in
theorem laws_markProber.calls (k : Nat) (P0_0_ : Nat → Prop) (u9000_ : Value) (l0_0 : List Int) (a0_1 : Int) (a0_2 : Int) (a0_3 : Int) (a0_4 : Int) (a0_5 : Int) (a1 : Int) (r1 : Int) (r2 : List Int) (w0 w : World) (hB : Below w0.heap.size w0 w) (ho0_0 : Kd.R (Kd.int .i64) 3 w w0.heap.size P0_0_ u9000_ l0_0) (h : laws_markProber.f k l0_0 a0_1 a0_2 a0_3 a0_4 a0_5 a1 = some (r1, r2)) :
  Calls Try.prog 61 #[.agg #[u9000_, .int .i64 a0_1, .int .i64 a0_2, .int .i64 a0_3, .int .i64 a0_4, .int .i64 a0_5], .int .i64 a1] w fun e w' => e = .returned (.int .i64 r1) ∧ Kd.R (Kd.int .i64) 3 w' w0.heap.size (fun k_ => (P0_0_ k_ ∨ w.heap.size ≤ k_)) u9000_ r2 ∧ Below w0.heap.size w0 w' ∧ Kept w w' (fun k_ => P0_0_ k_) := by
 have hu90 := Try.underlying90
 have HO0_0 := Aside0.mk (show Kd.R (Kd.int .i64) 3 w w0.heap.size (fun k_ => (P0_0_ k_ ∨ w.heap.size ≤ k_)) u9000_ l0_0 from Kd.R_mono ho0_0 (fun k_ hk => (.inl hk)))
 have HK := Aside0.mk (Kept.refl w (fun k_ => P0_0_ k_))
 have HW0 := Aside0.mk hB.size
 have HB := Aside0.mk hB; clear hB
 have H : ((laws_markIntS.f k l0_0 a1).bind fun bt342 => (some (bt342.1, bt342.2))) = some (r1, r2) := h
 clear h; replace H := Option.bind_eq_some_iff.mp H
 obtain ⟨⟨t342, t343⟩, A30, H⟩ := H
 replace H : (some (t342, t343)) = some (r1, r2) := H
 have A3 := Aside0.mk A30; clear A30; simp only [Option.some.injEq, Prod.mk.injEq] at H; obtain ⟨rfl, rfl⟩ := H
 obtain ⟨Ao4, co4, eo4⟩ := Kd.R_slice HO0_0.out
 subst eo4; go_enter Try.func61, Try.ntmps61
 go_wp2_with (first | ((with_reducible refine gate_dst (N := 2) rfl ?_); refine box_event ?hg (N := 2) ?hd (cs := #[.slice Ao4 l0_0.length co4, .int .i64 a0_1, .int .i64 a0_2, .int .i64 a0_3, .int .i64 a0_4, .int .i64 a0_5]) (t := 90) ?hr ?_; (case hd => rfl); (case hg => rfl); (case hr => first | (go_simp; done) | (go_simp; rfl)); intro gb341 hg w5 hbox hb; have n_ := an (Kd.R_below (by exact Kd.R_nw HO0_0.out) hb) (an (Kept.below (S := (fun k_ => P0_0_ k_)) (by exact kpt) hb) (an (below_step (by exact bel0) hb) (an (hbox) (an ((by rw [hg]; exact (by first | exact HK.out.1 | exact (show Kept w _ (fun k_ => P0_0_ k_) from by exact kpt).1) : w.heap.size ≤ gb341)) (an ((by rw [hg]; exact (below_size (by exact bel0)) : w0.heap.size ≤ gb341)) (trivial)))))); clear HO0_0 HK HB; obtain ⟨HO0_0, HK, HB, BK341, GW341, GE341, -⟩ := n_; clear hb hbox hg; obtain ⟨hcz6_0, hcz6_1, hcz6_2, hcz6_3, hcz6_4, hcz6_5⟩ := blkz6 BK341.out; have hfz6_0 := blkf BK341.out) | ((with_reducible refine gate_callee (f := 44) rfl ?_); refine goesL_ (some 8) rfl rfl Try.func44 (by kernel_rfl) rfl #[.slice Ao4 l0_0.length co4, .int .i64 a1] rfl (by (try simp only [List.map_toArray, List.map_cons, List.map_nil]); first | done | rfl | (simp only [List.length_drop, List.length_take]; rfl)) ?_; (with_reducible refine (laws_markIntS.calls k (fun k_ => some k_ = (.slice Ao4 l0_0.length co4 : Value).ownBlock) (.slice Ao4 l0_0.length co4) l0_0 a1 t342 t343 w0 _ ?side1 ?side2 A3.out).mono ?_); (case side1 => exact bel0); (case side2 => exact Kd.R_tight rfl HO0_0.out); rintro e w7 ⟨rfl, hy0, hb, hkp⟩; refine ⟨_, rfl, ?_⟩; have n_ := an (Kd.R_reok rfl hy0 (fun k_ e_ => HO0_0.out.1 k_ e_)) (an (blk_kept (by exact blk_nw BK341.out) hkp (fun hs_ => (fun e_ => (Kd.R_ne HO0_0.out BK341.out (by decide)) e_) hs_)) (an (Kept.then_ (S := (fun k_ => P0_0_ k_)) (by exact kpt) hkp (fun k_ hs_ => (fun e_ => (HO0_0.out.1 k_ e_.symm)) hs_)) (an (hb) (trivial)))); clear HO0_0 BK341 HK HB; obtain ⟨HO0_0, BK341, HK, HB, -⟩ := n_; (try clear hb); (try clear hkp); (try clear hy0)))
 go_ret
 exact ⟨by first | rfl | (simp [errW_none, errW_some] <;> rfl) | (simp [*, errW_none, errW_some] <;> rfl), by exact Kd.R_nw HO0_0.out, by exact bel0, by exact kpt⟩

end Go.Proofs.Ytigoajblljolcaa.XFnExactHelpers
