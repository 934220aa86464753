-- Written by this session's own program (xprint.py) over the kit's print.
import Derived.Test.YtigoajblljolcaaXFnExactMergex0
namespace Go.Proofs.Ytigoajblljolcaa.XFnExactMerge
open Go.RowKit Go.Proofs.YtigoajblljolcaaW.PrintWords Go.Proofs.YtigoajblljolcaaW.PrintLast Go.Proofs.YtigoajblljolcaaW.PrintMore
attribute [local go_sem] max2_int min2_int max_two min_two max_three min_three max_four min_four   -- for this text's walks alone
set_option linter.unusedVariables false
set_option linter.unusedSimpArgs false

/-! ### spec_l10own: function 78 -/
def spec_l10own.f (a0_0 : Int) (l0_1 : List (S82)) : Option (Int × (List (S82))) := (some (([] : List (S82)) : List (S82))).bind fun y153 => (if y153.length + l0_1.length < 5864062014805 then (some (a0_0, (y153 ++ l0_1))) else (none))
def spec_l10own.T1 : Bool × List (List Nat × List Nat) := (true, [([], []), ([0], [0]), ([], []), ([], []), ([3], [3]), ([2, 4], [2, 4]), ([1, 5], [1, 5]), ([6, 5, 0, 1, 2, 3, 4, 5, 6], [6])])
def spec_l10own.B1 : List Nat := [0, 1, 0, 0, 8, 28, 63, 127]
theorem spec_l10own.tab1 : rtab .any (opsOf Try.f78 1) = spec_l10own.T1 := by kernel_rfl
theorem spec_l10own.bits1 : waitsOk spec_l10own.T1.2 spec_l10own.B1 = true := by kernel_rfl
set_option maxHeartbeats 8000000 in
set_option maxRecDepth 100000 in
theorem spec_l10own.calls (a0_0 : Int) (A0_1 : Option Addr) (c0_1 : Nat) (l0_1 : List (S82)) (r1 : Int) (r2 : List (S82)) (w : World) (hr0_1 : Kd.C k82 w A0_1 l0_1.length l0_1) (hc0_1 : l0_1.length ≤ c0_1) (h : spec_l10own.f a0_0 l0_1 = some (r1, r2)) :
  Calls Try.prog 78 #[.agg #[.int .i64 a0_0, .slice A0_1 l0_1.length c0_1]] w fun e w' => ∃ v1_ : Value, e = .returned (.agg #[.int .i64 r1, v1_]) ∧ Kd.R k82 82 w' w.heap.size (fun _ => True) v1_ r2 ∧ Below w.heap.size w w' := by
 have hu41 := Try.underlying41
 have HR0_1 := Aside0.mk hr0_1; have HC0_1 := Aside0.mk hc0_1; clear hr0_1 hc0_1
 have HB := Aside0.mk (Below.refl w.heap.size w)
 have H : ((some (([] : List (S82)) : List (S82))).bind fun y153 => (if y153.length + l0_1.length < 5864062014805 then (some (a0_0, (y153 ++ l0_1))) else (none))) = some (r1, r2) := h
 clear h
 obtain ⟨y153, hy153⟩ : ∃ y_ : List (S82), y_ = (([] : List (S82))) := ⟨_, rfl⟩
 replace H : (if y153.length + l0_1.length < 5864062014805 then (some (a0_0, (y153 ++ l0_1))) else (none)) = some (r1, r2) := by first | (rw [hy153]; with_reducible exact H) | (have H2_ := (Option.bind_some _ _).symm.trans H; rw [hy153]; with_reducible exact H2_) | (have H2_ := (Option.bind_some _ _).symm.trans H; with_reducible exact H2_) | with_reducible exact H | (rw [hy153]; exact H) | exact H
 have Ny153 := Aside0.mk hy153; clear hy153
 by_cases c2 : y153.length + l0_1.length < 5864062014805
 ·rw [if_pos c2] at H; have LMc2 := Aside0.mk c2; clear c2
  obtain ⟨y156, hy156⟩ : ∃ y_ : List (S82), y_ = (y153 ++ l0_1) := ⟨_, rfl⟩
  replace H : (some (a0_0, y156)) = some (r1, r2) := by first | (rw [hy156]; with_reducible exact H) | (have H2_ := (Option.bind_some _ _).symm.trans H; rw [hy156]; with_reducible exact H2_) | (have H2_ := (Option.bind_some _ _).symm.trans H; with_reducible exact H2_) | with_reducible exact H | (rw [hy156]; exact H) | exact H
  have Ny156 := Aside0.mk hy156; clear hy156; simp only [Option.some.injEq, Prod.mk.injEq] at H; obtain ⟨rfl, rfl⟩ := H; go_enter Try.func78, Try.ntmps78
  try go_wp2_with (first | ((with_reducible refine gate_dst (N := 1) rfl ?_); refine box_event ?hg (N := 1) ?hd (cs := #[.int .i64 a0_0, .slice A0_1 l0_1.length c0_1]) (t := 41) ?hr ?_; (case hd => rfl); (case hg => rfl); (case hr => first | (go_simp; done) | (go_simp; rfl)); intro gb151 hg w3 hbox hb; have n_ := an (below_step (by exact bel0) hb) (an (hbox) (an ((by rw [hg]; exact (below_size (by exact bel0)) : w.heap.size ≤ gb151)) (an ((by rw [hg]; exact (below_size (by exact bel0)) : w.heap.size ≤ gb151)) (trivial)))); clear HB; obtain ⟨HB, BK151, GW151, GE151, -⟩ := n_; clear hb hbox hg) | ((with_reducible refine gate_dst (N := 2) rfl ?_); refine box_event ?hg (N := 2) ?hd (cs := #[.int .i64 0, .slice none 0 0]) (t := 41) ?hr ?_; (case hd => rfl); (case hg => rfl); (case hr => first | (go_simp; done) | (go_simp; rfl)); intro gb152 hg w4 hbox hb; have n_ := an (blk_below (blk_nw BK151.out) hb) (an (below_step (by exact bel0) hb) (an (hbox) (an ((by rw [hg]; exact (below_size (by exact bel0)) : w.heap.size ≤ gb152)) (an ((by rw [hg]; exact (below_size (by exact bel0)) : w.heap.size ≤ gb152)) (an ((by rw [hg]; exact Nat.ne_of_lt (blk_lt (blk_nw BK151.out)) : gb151 ≠ gb152)) (an ((by rw [hg]; exact Nat.ne_of_gt (blk_lt (blk_nw BK151.out)) : gb152 ≠ gb151)) (trivial))))))); clear BK151 HB; obtain ⟨BK151, HB, BK152, GW152, GE152, NB151_152, NB152_151, -⟩ := n_; clear hb hbox hg))
  have n_ := an (blk_drew BK151.out) (an (blk_drew BK152.out) (an (below_drew1 HB.out) (trivial)))
  clear BK151 BK152 HB
  obtain ⟨BK151, BK152, HB, -⟩ := n_
  refine start_ (n := 8) (S := fun w' => w'.cell? ⟨gb151, 0, none⟩ = some (.int .i64 a0_0) ∧ w'.cell? ⟨gb151, 1, none⟩ = some (.slice A0_1 l0_1.length c0_1)) (ds := []) #[false, false, false, false, false, false, false, false] (by kernel_rfl) rfl rfl ⟨(blk_cell BK151.out 0).trans rfl, (blk_cell BK151.out 1).trans rfl⟩ (fun hHeld => ?_); refine with_tabW spec_l10own.tab1 spec_l10own.bits1 (fun HT_ HW_ => ?_)
  generalize w4.drew = w5 at BK151 BK152 HB hHeld ⊢
  refine pure_ (i := 0) (N := some 3) (v := ?_) (a' := ?_) #[true, false, false, false, false, false, false, false] rfl rfl (any_of HT_.out (by kernel_rfl)) (fun _ _ _ h => h) (Or.inl ⟨by rfl, ?_⟩) ?_ ?_
  rotate_left
  ·intro w'
   go_simp
   with_reducible rfl
  rotate_left
  ·simp only [Act.put, List.setIfInBounds_toArray, List.set_cons_zero, List.set_cons_succ, i64_w, i32_w]
   rfl
  refine pure_ (i := 3) (N := some 6) (v := ?_) (a' := ?_) #[true, false, false, true, false, false, false, false] rfl rfl (any_of HT_.out (by kernel_rfl)) (fun _ _ _ h => h) (Or.inl ⟨by rfl, ?_⟩) ?_ ?_
  rotate_left
  ·intro w'
   go_simp
   with_reducible rfl
  rotate_left
  ·simp only [Act.put, List.setIfInBounds_toArray, List.set_cons_zero, List.set_cons_succ, i64_w, i32_w]
   rfl
  refine take_ (i := 1) (N := some 4) (v := ?_) (a' := ?_) #[true, true, false, true, false, false, false, false] rfl rfl (take_ofW HT_.out HW_.out (by kernel_rfl)) (fun _ _ _ h => h) (Or.inl ⟨by rfl, ?_⟩) hHeld ?_ ?_
  rotate_left
  ·rintro w' ⟨s0, s1⟩
   go_simp
   with_reducible rfl
  rotate_left
  ·simp only [Act.put, List.setIfInBounds_toArray, List.set_cons_zero, List.set_cons_succ, i64_w, i32_w]
   rfl
  refine take_ (i := 4) (N := some 7) (v := ?_) (a' := ?_) #[true, true, false, true, true, false, false, false] rfl rfl (take_ofW HT_.out HW_.out (by kernel_rfl)) (fun _ _ _ h => h) (Or.inl ⟨by rfl, ?_⟩) hHeld ?_ ?_
  rotate_left
  ·rintro w' ⟨s0, s1⟩
   go_simp
   with_reducible rfl
  rotate_left
  ·simp only [Act.put, List.setIfInBounds_toArray, List.set_cons_zero, List.set_cons_succ, i64_w, i32_w]
   rfl
  refine one_ (i := 2) (N := some 5) #[true, true, true, true, true, false, false, false] rfl rfl (one_of HT_.out (by kernel_rfl)) (by decide) (fun K hK => ?_)
  refine Kd.R_lit_step k82 _ 82 ?hg (N := 5) ?hd (xs := ([] : List (S82))) (inner := []) (ok := fun _ => True) (okp := fun _ => True) ?hr ?hp (fun _ hk => hk) trivial (Below.refl _ _) (Nat.le_refl _) (by simp) ?_; (case hd => rfl); (case hg => rfl); (case hr => first | (go_simp; done) | (go_simp; rfl)); (case hp => exact (Reps.none _ _))
  intro v154 w6 ho7 hb hg_ hnew_
  clear hg_ hnew_
  (first | rw [← Ny153.out] at ho7 | (simp only [Int.reduceToNat] at ho7; rw [← Ny153.out] at ho7))
  have n_ := an (Kd.R_lower ho7 (below_size (by exact bel0))) (an (blk_below (blk_nw BK151.out) hb) (an (blk_below (blk_nw BK152.out) hb) (an (below_step (by exact bel0) hb) (trivial))))
  clear BK151 BK152 HB
  obtain ⟨HO155, BK151, BK152, HB, -⟩ := n_
  clear hb ho7
  refine hK.out _ _ ⟨(blk_cell BK151.out 0).trans rfl, (blk_cell BK151.out 1).trans rfl⟩ (fun hHeld => ?_)
  clear hK K
  refine norm_ (a' := ?_) ?_ ?_
  rotate_left
  ·show Act.put _ (some 5) _ = _
   simp only [Act.put, List.setIfInBounds_toArray, List.set_cons_zero, List.set_cons_succ, i64_w, i32_w]
   rfl
  refine one_ (i := 5) (N := some 8) #[true, true, true, true, true, true, false, false] rfl rfl (one_of HT_.out (by kernel_rfl)) (by decide) (fun K hK => ?_)
  refine Kd.R_append_rows_step k82 (w0 := w) w.heap.size (by rfl) (.tmp 5) (.tmp 7) 39 82 (.agg #[(.int .i64 0), (.int .i64 0), (.int .i64 0)]) 24 rfl Try.underlying39 info82 rfl (by decide) (by omega) v154 y153 l0_1 _ _ _ (fun _ => True) (fun _ => False) rfl rfl ?aO ?aR (fun _ _ h => h) (fun _ h => h.elim) ?aF ?aB ?aS ?aL ?_
  (case aR => repeat (first | exact (Kd.C_below HR0_1.out HB.out) | (with_reducible refine Kd.C_alloc ?_ _) | (with_reducible refine Kd.C_drewN ?_ _) | (with_reducible refine Kd.C_drew ?_)))
  (case aB => exact (by exact bel0))
  (case aF => exact (fun _ _ => trivial))
  (case aO => exact (by exact Kd.R_nw HO155.out))
  (case aS => exact (below_size (by exact bel0)))
  (case aL => have := LMc2.out; omega)
  intro v157 w8 ho hb hg hat
  rw [← Ny156.out] at ho
  have n_ := an (blk_grown (blk_nw BK151.out) hg (Kd.R_ne HO155.out BK151.out (by decide))) (an (blk_grown (blk_nw BK152.out) hg (Kd.R_ne HO155.out BK152.out (by decide))) (an (hb) (an (ho) (trivial))))
  clear BK151 BK152 HB HO155
  obtain ⟨BK151, BK152, HB, HO158, -⟩ := n_
  clear ho hb hg hat
  obtain ⟨Ao9, co9, eo9⟩ := Kd.R_slice HO158.out
  (first | subst eo9 | (injection eo9 with f1_ f2_ f3_; have f4_ := f1_.symm; have f5_ := f3_.symm; clear f1_ f2_ f3_; subst f4_; subst f5_))
  refine hK.out _ _ ⟨(blk_cell BK151.out 0).trans rfl, (blk_cell BK151.out 1).trans rfl⟩ (fun hHeld => ?_)
  clear hK K
  refine norm_ (a' := ?_) ?_ ?_
  rotate_left
  ·show Act.put _ (some 8) _ = _
   simp only [Act.put, List.setIfInBounds_toArray, List.set_cons_zero, List.set_cons_succ, i64_w, i32_w]
   rfl
  refine pure_ (i := 6) (N := some 9) (v := ?_) (a' := ?_) #[true, true, true, true, true, true, true, false] rfl rfl (any_of HT_.out (by kernel_rfl)) (fun _ _ _ h => h) (Or.inl ⟨by rfl, ?_⟩) ?_ ?_
  rotate_left
  ·intro w'
   go_simp
   with_reducible rfl
  rotate_left
  ·simp only [Act.put, List.setIfInBounds_toArray, List.set_cons_zero, List.set_cons_succ, i64_w, i32_w]
   rfl
  refine one_ (i := 7) (N := none) #[true, true, true, true, true, true, true, true] rfl rfl (one_of HT_.out (by kernel_rfl)) (by decide) (fun K hK => ?_)
  have hs10 : w8.cell? ⟨gb152, 0, none⟩ = some (.int .i64 0) := (blk_cell BK152.out 0).trans rfl
  have hfs10 := blk_frozen BK152.out 0
  have hns10_0 := NB151_152.out; have hms10_0 := NB152_151.out
  have hs11 : w8.cell? ⟨gb152, 1, none⟩ = some (.slice none 0 0) := (blk_cell BK152.out 1).trans rfl
  have hfs11 := blk_frozen BK152.out 1
  have hns11_0 := NB151_152.out; have hms11_0 := NB152_151.out
  refine skip_ (w1 := ?_) (by rfl) rfl ?_ ?_
  rotate_left
  ·go_simp
   rfl
  refine hK.out _ _ ⟨((cell_far (p := ⟨gb152, _, none⟩) NB151_152.out _).trans (((cell_far (p := ⟨gb152, _, none⟩) NB151_152.out _).trans (hHeld.1)))), ((cell_far (p := ⟨gb152, _, none⟩) NB151_152.out _).trans (((cell_far (p := ⟨gb152, _, none⟩) NB151_152.out _).trans (hHeld.2))))⟩ (fun hHeld => ?_)
  clear hK K
  refine done_ (done_of HT_.out (by kernel_rfl)) ?_
  try go_wp2
  refine bodyPost_ret (results_cell_row rfl _ _ gb152 41 #[.int .i64 a0_0, .slice Ao9 y156.length co9] (0, 0) _ rfl (by (with_reducible repeat (first | refine blk_drewN ?_ _ | refine blk_drew ?_ | refine blk_alloc ?_ _)); exact blk_fill2 BK152.out) Try.underlying41 rfl (by kernel_rfl)) rfl ?_
  exact ⟨_, by first | rfl | (simp [errW_none, errW_some] <;> rfl) | (simp [*, errW_none, errW_some] <;> rfl), by exact (Kd.R_farN HO158.out BK152.out), by exact bel0⟩
 ·rw [if_neg c2] at H
  exact absurd H (by simp)

/-! ### spec_Beats: function 153 -/
def spec_Beats.f (a0_0 : Int) (a0_1 : Int) (a0_2 : Int) (a1_0 : Int) (a1_1 : Int) (a1_2 : Int) : Option (Bool) := if a0_0 = a1_0 then (if a0_2 > a1_2 then (some true) else (if a0_2 = a1_2 then (some (decide (a0_1 > a1_1))) else (some false))) else (some false)
set_option maxHeartbeats 8000000 in
set_option maxRecDepth 100000 in
theorem spec_Beats.calls (a0_0 : Int) (a0_1 : Int) (a0_2 : Int) (a1_0 : Int) (a1_1 : Int) (a1_2 : Int) (r : Bool) (w : World) (h : spec_Beats.f a0_0 a0_1 a0_2 a1_0 a1_1 a1_2 = some r) :
  Calls Try.prog 153 #[.agg #[.int .i64 a0_0, .int .i64 a0_1, .int .i64 a0_2], .agg #[.int .i64 a1_0, .int .i64 a1_1, .int .i64 a1_2]] w fun e w' => e = .returned (.bool r) ∧ Below w.heap.size w w' := by
 have hu82 := Try.underlying82
 have HB := Aside0.mk (Below.refl w.heap.size w)
 have H : (if a0_0 = a1_0 then (if a0_2 > a1_2 then (some true) else (if a0_2 = a1_2 then (some (decide (a0_1 > a1_1))) else (some false))) else (some false)) = some r := h
 clear h; go_enter Try.func153, Try.ntmps153
 replace H := Aside0.mk H
 go_wp2_with (first | ((with_reducible refine gate_dst (N := 2) rfl ?_); refine box_event ?hg (N := 2) ?hd (cs := #[.int .i64 a0_0, .int .i64 a0_1, .int .i64 a0_2]) (t := 82) ?hr ?_; (case hd => rfl); (case hg => rfl); (case hr => first | (go_simp; done) | (go_simp; rfl)); intro gb159 hg w3 hbox hb; have n_ := an (below_step (by exact bel0) hb) (an (hbox) (an ((by rw [hg]; exact (below_size (by exact bel0)) : w.heap.size ≤ gb159)) (an ((by rw [hg]; exact (below_size (by exact bel0)) : w.heap.size ≤ gb159)) (trivial)))); clear HB; obtain ⟨HB, BK159, GW159, GE159, -⟩ := n_; clear hb hbox hg) | ((with_reducible refine gate_dst (N := 3) rfl ?_); refine box_event ?hg (N := 3) ?hd (cs := #[.int .i64 a1_0, .int .i64 a1_1, .int .i64 a1_2]) (t := 82) ?hr ?_; (case hd => rfl); (case hg => rfl); (case hr => first | (go_simp; done) | (go_simp; rfl)); intro gb160 hg w4 hbox hb; have n_ := an (blk_below (blk_nw BK159.out) hb) (an (below_step (by exact bel0) hb) (an (hbox) (an ((by rw [hg]; exact (below_size (by exact bel0)) : w.heap.size ≤ gb160)) (an ((by rw [hg]; exact (below_size (by exact bel0)) : w.heap.size ≤ gb160)) (an ((by rw [hg]; exact Nat.ne_of_lt (blk_lt (blk_nw BK159.out)) : gb159 ≠ gb160)) (an ((by rw [hg]; exact Nat.ne_of_gt (blk_lt (blk_nw BK159.out)) : gb160 ≠ gb159)) (trivial))))))); clear BK159 HB; obtain ⟨BK159, HB, BK160, GW160, GE160, NB159_160, NB160_159, -⟩ := n_; clear hb hbox hg; have hnb5 := NB159_160.out; have hnc5 := NB160_159.out; obtain ⟨hcz6_0, hcz6_1, hcz6_2⟩ := blkz3 BK159.out; have hfz6_0 := blkf BK159.out; obtain ⟨hcz7_0, hcz7_1, hcz7_2⟩ := blkz3 BK160.out; have hfz7_0 := blkf BK160.out; refine Stop.out ?_))
 refine Stop.mk ?_
 replace H := H.out
 by_cases c8 : a0_0 = a1_0
 ·rw [if_pos c8] at H; have c8b0 : (a0_0 == a1_0) = true := beq_iff_eq.mpr c8; have c8b1 : (a0_0 != a1_0) = false := bne_eq_false_iff_eq.mpr c8; clear c8
  by_cases c9 : a0_2 > a1_2
  ·rw [if_pos c9] at H; have c9b0 : decide (a1_2 < a0_2) = true := decide_eq_true c9; clear c9; (try simp only [c9b0])
   obtain rfl := Option.some.inj H
   have hnb10 := NB159_160.out; have hnc10 := NB160_159.out; obtain ⟨hcz11_0, hcz11_1, hcz11_2⟩ := blkz3 BK159.out; have hfz11_0 := blkf BK159.out; obtain ⟨hcz12_0, hcz12_1, hcz12_2⟩ := blkz3 BK160.out; have hfz12_0 := blkf BK160.out
   go_wp2
   go_ret
   exact ⟨by first | rfl | (simp [errW_none, errW_some] <;> rfl) | (simp [*, errW_none, errW_some] <;> rfl), by exact bel0⟩
  ·rw [if_neg c9] at H; have c9b0 : decide (a1_2 < a0_2) = false := decide_eq_false c9; clear c9; (try simp only [c9b0])
   by_cases c13 : a0_2 = a1_2
   ·rw [if_pos c13] at H; have c13b0 : (a0_2 == a1_2) = true := beq_iff_eq.mpr c13; have c13b1 : (a0_2 != a1_2) = false := bne_eq_false_iff_eq.mpr c13; clear c13
    obtain rfl := Option.some.inj H
    have hnb14 := NB159_160.out; have hnc14 := NB160_159.out; obtain ⟨hcz15_0, hcz15_1, hcz15_2⟩ := blkz3 BK159.out; have hfz15_0 := blkf BK159.out; obtain ⟨hcz16_0, hcz16_1, hcz16_2⟩ := blkz3 BK160.out; have hfz16_0 := blkf BK160.out
    go_wp2
    go_ret
    exact ⟨by first | rfl | (simp [errW_none, errW_some] <;> rfl) | (simp [*, errW_none, errW_some] <;> rfl), by exact bel0⟩
   ·rw [if_neg c13] at H; have c13b0 : (a0_2 == a1_2) = false := beq_eq_false_iff_ne.mpr c13; have c13b1 : (a0_2 != a1_2) = true := bne_iff_ne.mpr c13
    obtain rfl := Option.some.inj H
    have hnb17 := NB159_160.out; have hnc17 := NB160_159.out; obtain ⟨hcz18_0, hcz18_1, hcz18_2⟩ := blkz3 BK159.out; have hfz18_0 := blkf BK159.out; obtain ⟨hcz19_0, hcz19_1, hcz19_2⟩ := blkz3 BK160.out; have hfz19_0 := blkf BK160.out
    go_wp2
    go_ret
    exact ⟨by first | rfl | (simp [errW_none, errW_some] <;> rfl) | (simp [*, errW_none, errW_some] <;> rfl), by exact bel0⟩
 ·rw [if_neg c8] at H; have c8b0 : (a0_0 == a1_0) = false := beq_eq_false_iff_ne.mpr c8; have c8b1 : (a0_0 != a1_0) = true := bne_iff_ne.mpr c8
  obtain rfl := Option.some.inj H
  go_wp2
  go_ret
  exact ⟨by first | rfl | (simp [errW_none, errW_some] <;> rfl) | (simp [*, errW_none, errW_some] <;> rfl), by exact bel0⟩

end Go.Proofs.Ytigoajblljolcaa.XFnExactMerge
