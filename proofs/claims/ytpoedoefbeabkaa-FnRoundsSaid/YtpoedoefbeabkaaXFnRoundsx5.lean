-- Written by this session's own program (xprint.py) over the kit's print.
import Derived.Test.YtpoedoefbeabkaaXFnRoundsx0
import Derived.Test.YtpoedoefbeabkaaXFnRoundsx1
import Derived.Test.YtpoedoefbeabkaaXFnRoundsx2
import Derived.Test.YtpoedoefbeabkaaXFnRoundsx4
namespace Go.Proofs.Ytpoedoefbeabkaa.XFnRounds
open Go.RowKit Go.Proofs.YtpoedoefbeabkaaW.PrintWords Go.Proofs.YtpoedoefbeabkaaW.PrintLast Go.Proofs.YtpoedoefbeabkaaW.PrintMore
attribute [local go_sem] max2_int min2_int max_two min_two max_three min_three max_four min_four   -- for this text's walks alone
set_option linter.unusedVariables false
set_option linter.unusedSimpArgs false

/-! ### spec_l10own: function 56 -/
def spec_l10own.f (a0_0 : Int) (l0_1 : List (S40)) : Option (Int × (List (S40))) := (some (([] : List (S40)) : List (S40))).bind fun y199 => (if y199.length + l0_1.length < 5864062014805 then (some (a0_0, (y199 ++ l0_1))) else (none))
def spec_l10own.T1 : Bool × List (List Nat × List Nat) := (true, [([], []), ([0], [0]), ([], []), ([], []), ([3], [3]), ([2, 4], [2, 4]), ([1, 5], [1, 5]), ([6, 5, 0, 1, 2, 3, 4, 5, 6], [6])])
def spec_l10own.B1 : List Nat := [0, 1, 0, 0, 8, 28, 63, 127]
theorem spec_l10own.tab1 : rtab .any (opsOf Try.f56 1) = spec_l10own.T1 := by kernel_rfl
theorem spec_l10own.bits1 : waitsOk spec_l10own.T1.2 spec_l10own.B1 = true := by kernel_rfl
set_option maxHeartbeats 8000000 in
set_option maxRecDepth 100000 in
theorem spec_l10own.calls (a0_0 : Int) (A0_1 : Option Addr) (c0_1 : Nat) (l0_1 : List (S40)) (r1 : Int) (r2 : List (S40)) (w : World) (hr0_1 : Kd.C k40 w A0_1 l0_1.length l0_1) (hc0_1 : l0_1.length ≤ c0_1) (h : spec_l10own.f a0_0 l0_1 = some (r1, r2)) :
  Calls Try.prog 56 #[.agg #[.int .i64 a0_0, .slice A0_1 l0_1.length c0_1]] w fun e w' => ∃ v1_ : Value, e = .returned (.agg #[.int .i64 r1, v1_]) ∧ Kd.R k40 40 w' w.heap.size (fun _ => True) v1_ r2 ∧ Below w.heap.size w w' := by
 have hu28 := Try.underlying28
 have HR0_1 := Aside0.mk hr0_1; have HC0_1 := Aside0.mk hc0_1; clear hr0_1 hc0_1
 have HB := Aside0.mk (Below.refl w.heap.size w)
 have H : ((some (([] : List (S40)) : List (S40))).bind fun y199 => (if y199.length + l0_1.length < 5864062014805 then (some (a0_0, (y199 ++ l0_1))) else (none))) = some (r1, r2) := h
 clear h
 obtain ⟨y199, hy199⟩ : ∃ y_ : List (S40), y_ = (([] : List (S40))) := ⟨_, rfl⟩
 replace H : (if y199.length + l0_1.length < 5864062014805 then (some (a0_0, (y199 ++ l0_1))) else (none)) = some (r1, r2) := by first | (rw [hy199]; with_reducible exact H) | (rw [hy199]; exact H) | exact H
 have Ny199 := Aside0.mk hy199; clear hy199
 by_cases c2 : y199.length + l0_1.length < 5864062014805
 ·rw [if_pos c2] at H; have LMc2 := Aside0.mk c2; clear c2
  obtain ⟨y202, hy202⟩ : ∃ y_ : List (S40), y_ = (y199 ++ l0_1) := ⟨_, rfl⟩
  replace H : (some (a0_0, y202)) = some (r1, r2) := by first | (rw [hy202]; with_reducible exact H) | (rw [hy202]; exact H) | exact H
  have Ny202 := Aside0.mk hy202; clear hy202; simp only [Option.some.injEq, Prod.mk.injEq] at H; obtain ⟨rfl, rfl⟩ := H; go_enter Try.func56, Try.ntmps56
  try go_wp2_with (first | ((with_reducible refine gate_dst (N := 1) rfl ?_); refine box_event ?hg (N := 1) ?hd (cs := #[.int .i64 a0_0, .slice A0_1 l0_1.length c0_1]) (t := 28) ?hr ?_; (case hd => rfl); (case hg => rfl); (case hr => first | (go_simp; done) | (go_simp; rfl)); intro gb197 hg w3 hbox hb; have n_ := an (below_step (by exact bel0) hb) (an (hbox) (an ((by rw [hg]; exact (below_size (by exact bel0)) : w.heap.size ≤ gb197)) (an ((by rw [hg]; exact (below_size (by exact bel0)) : w.heap.size ≤ gb197)) (trivial)))); clear HB; obtain ⟨HB, BK197, GW197, GE197, -⟩ := n_; clear hb hbox hg) | ((with_reducible refine gate_dst (N := 2) rfl ?_); refine box_event ?hg (N := 2) ?hd (cs := #[.int .i64 0, .slice none 0 0]) (t := 28) ?hr ?_; (case hd => rfl); (case hg => rfl); (case hr => first | (go_simp; done) | (go_simp; rfl)); intro gb198 hg w4 hbox hb; have n_ := an (blk_below (blk_nw BK197.out) hb) (an (below_step (by exact bel0) hb) (an (hbox) (an ((by rw [hg]; exact (below_size (by exact bel0)) : w.heap.size ≤ gb198)) (an ((by rw [hg]; exact (below_size (by exact bel0)) : w.heap.size ≤ gb198)) (an ((by rw [hg]; exact Nat.ne_of_lt (blk_lt (blk_nw BK197.out)) : gb197 ≠ gb198)) (an ((by rw [hg]; exact Nat.ne_of_gt (blk_lt (blk_nw BK197.out)) : gb198 ≠ gb197)) (trivial))))))); clear BK197 HB; obtain ⟨BK197, HB, BK198, GW198, GE198, NB197_198, NB198_197, -⟩ := n_; clear hb hbox hg))
  have n_ := an (blk_drew BK197.out) (an (blk_drew BK198.out) (an (below_drew1 HB.out) (trivial)))
  clear BK197 BK198 HB
  obtain ⟨BK197, BK198, HB, -⟩ := n_
  refine start_ (n := 8) (S := fun w' => w'.cell? ⟨gb197, 0, none⟩ = some (.int .i64 a0_0) ∧ w'.cell? ⟨gb197, 1, none⟩ = some (.slice A0_1 l0_1.length c0_1)) (ds := []) #[false, false, false, false, false, false, false, false] (by kernel_rfl) rfl rfl ⟨(blk_cell BK197.out 0).trans rfl, (blk_cell BK197.out 1).trans rfl⟩ (fun hHeld => ?_); refine with_tabW spec_l10own.tab1 spec_l10own.bits1 (fun HT_ HW_ => ?_)
  generalize w4.drew = w5 at BK197 BK198 HB hHeld ⊢
  refine pure_ (i := 0) (N := some 3) (v := ?_) (a' := ?_) #[true, false, false, false, false, false, false, false] rfl rfl (any_of HT_.out (by kernel_rfl)) (fun _ _ _ h => h) (Or.inl ⟨by rfl, ?_⟩) ?_ ?_
  rotate_left
  ·intro w'
   go_simp
   with_reducible rfl
  rotate_left
  ·simp only [Act.put, List.setIfInBounds_toArray, List.set_cons_zero, List.set_cons_succ, i64_w, i32_w]
   rfl
  refine pure_ (i := 3) (N := some 6) (v := ?_) (a' := ?_) #[true, false, false, true, false, false, false, false] rfl rfl (any_of HT_.out (by kernel_rfl)) (fun _ _ _ h => h) (Or.inl ⟨by rfl, ?_⟩) ?_ ?_
  rotate_left
  ·intro w'
   go_simp
   with_reducible rfl
  rotate_left
  ·simp only [Act.put, List.setIfInBounds_toArray, List.set_cons_zero, List.set_cons_succ, i64_w, i32_w]
   rfl
  refine take_ (i := 1) (N := some 4) (v := ?_) (a' := ?_) #[true, true, false, true, false, false, false, false] rfl rfl (take_ofW HT_.out HW_.out (by kernel_rfl)) (fun _ _ _ h => h) (Or.inl ⟨by rfl, ?_⟩) hHeld ?_ ?_
  rotate_left
  ·rintro w' ⟨s0, s1⟩
   go_simp
   with_reducible rfl
  rotate_left
  ·simp only [Act.put, List.setIfInBounds_toArray, List.set_cons_zero, List.set_cons_succ, i64_w, i32_w]
   rfl
  refine take_ (i := 4) (N := some 7) (v := ?_) (a' := ?_) #[true, true, false, true, true, false, false, false] rfl rfl (take_ofW HT_.out HW_.out (by kernel_rfl)) (fun _ _ _ h => h) (Or.inl ⟨by rfl, ?_⟩) hHeld ?_ ?_
  rotate_left
  ·rintro w' ⟨s0, s1⟩
   go_simp
   with_reducible rfl
  rotate_left
  ·simp only [Act.put, List.setIfInBounds_toArray, List.set_cons_zero, List.set_cons_succ, i64_w, i32_w]
   rfl
  refine one_ (i := 2) (N := some 5) #[true, true, true, true, true, false, false, false] rfl rfl (one_of HT_.out (by kernel_rfl)) (by decide) (fun K hK => ?_)
  refine Kd.R_lit_step k40 _ 40 ?hg (N := 5) ?hd (xs := ([] : List (S40))) (inner := []) (ok := fun _ => True) (okp := fun _ => True) ?hr ?hp (fun _ hk => hk) trivial (Below.refl _ _) (Nat.le_refl _) (by simp) ?_; (case hd => rfl); (case hg => rfl); (case hr => first | (go_simp; done) | (go_simp; rfl)); (case hp => exact (Reps.none _ _))
  intro v200 w6 ho7 hb hg_ hnew_
  clear hg_ hnew_
  (first | rw [← Ny199.out] at ho7 | (simp only [Int.reduceToNat] at ho7; rw [← Ny199.out] at ho7))
  have n_ := an (Kd.R_lower ho7 (below_size (by exact bel0))) (an (blk_below (blk_nw BK197.out) hb) (an (blk_below (blk_nw BK198.out) hb) (an (below_step (by exact bel0) hb) (trivial))))
  clear BK197 BK198 HB
  obtain ⟨HO201, BK197, BK198, HB, -⟩ := n_
  clear hb ho7
  refine hK.out _ _ ⟨(blk_cell BK197.out 0).trans rfl, (blk_cell BK197.out 1).trans rfl⟩ (fun hHeld => ?_)
  clear hK K
  refine norm_ (a' := ?_) ?_ ?_
  rotate_left
  ·show Act.put _ (some 5) _ = _
   simp only [Act.put, List.setIfInBounds_toArray, List.set_cons_zero, List.set_cons_succ, i64_w, i32_w]
   rfl
  refine one_ (i := 5) (N := some 8) #[true, true, true, true, true, true, false, false] rfl rfl (one_of HT_.out (by kernel_rfl)) (by decide) (fun K hK => ?_)
  refine Kd.R_append_rows_step k40 (w0 := w) w.heap.size (by rfl) (.tmp 5) (.tmp 7) 26 40 (.agg #[(.int .i64 0), (.int .i64 0), (.int .i64 0)]) 24 rfl Try.underlying26 info40 rfl (by decide) (by omega) v200 y199 l0_1 _ _ _ (fun _ => True) (fun _ => False) rfl rfl ?aO ?aR (fun _ _ h => h) (fun _ h => h.elim) ?aF ?aB ?aS ?aL ?_
  (case aR => repeat (first | exact (Kd.C_below HR0_1.out HB.out) | (with_reducible refine Kd.C_alloc ?_ _) | (with_reducible refine Kd.C_drewN ?_ _) | (with_reducible refine Kd.C_drew ?_)))
  (case aB => exact (by exact bel0))
  (case aF => exact (fun _ _ => trivial))
  (case aO => exact (by exact Kd.R_nw HO201.out))
  (case aS => exact (below_size (by exact bel0)))
  (case aL => have := LMc2.out; omega)
  intro v203 w8 ho hb hg hat
  rw [← Ny202.out] at ho
  have n_ := an (blk_grown (blk_nw BK197.out) hg (Kd.R_ne HO201.out BK197.out (by decide))) (an (blk_grown (blk_nw BK198.out) hg (Kd.R_ne HO201.out BK198.out (by decide))) (an (hb) (an (ho) (trivial))))
  clear BK197 BK198 HB HO201
  obtain ⟨BK197, BK198, HB, HO204, -⟩ := n_
  clear ho hb hg hat
  obtain ⟨Ao9, co9, eo9⟩ := Kd.R_slice HO204.out
  (first | subst eo9 | (injection eo9 with f1_ f2_ f3_; have f4_ := f1_.symm; have f5_ := f3_.symm; clear f1_ f2_ f3_; subst f4_; subst f5_))
  refine hK.out _ _ ⟨(blk_cell BK197.out 0).trans rfl, (blk_cell BK197.out 1).trans rfl⟩ (fun hHeld => ?_)
  clear hK K
  refine norm_ (a' := ?_) ?_ ?_
  rotate_left
  ·show Act.put _ (some 8) _ = _
   simp only [Act.put, List.setIfInBounds_toArray, List.set_cons_zero, List.set_cons_succ, i64_w, i32_w]
   rfl
  refine pure_ (i := 6) (N := some 9) (v := ?_) (a' := ?_) #[true, true, true, true, true, true, true, false] rfl rfl (any_of HT_.out (by kernel_rfl)) (fun _ _ _ h => h) (Or.inl ⟨by rfl, ?_⟩) ?_ ?_
  rotate_left
  ·intro w'
   go_simp
   with_reducible rfl
  rotate_left
  ·simp only [Act.put, List.setIfInBounds_toArray, List.set_cons_zero, List.set_cons_succ, i64_w, i32_w]
   rfl
  refine one_ (i := 7) (N := none) #[true, true, true, true, true, true, true, true] rfl rfl (one_of HT_.out (by kernel_rfl)) (by decide) (fun K hK => ?_)
  have hs10 : w8.cell? ⟨gb198, 0, none⟩ = some (.int .i64 0) := (blk_cell BK198.out 0).trans rfl
  have hfs10 := blk_frozen BK198.out 0
  have hns10_0 := NB197_198.out; have hms10_0 := NB198_197.out
  have hs11 : w8.cell? ⟨gb198, 1, none⟩ = some (.slice none 0 0) := (blk_cell BK198.out 1).trans rfl
  have hfs11 := blk_frozen BK198.out 1
  have hns11_0 := NB197_198.out; have hms11_0 := NB198_197.out
  refine skip_ (w1 := ?_) (by rfl) rfl ?_ ?_
  rotate_left
  ·go_simp
   rfl
  refine hK.out _ _ ⟨((cell_far (p := ⟨gb198, _, none⟩) NB197_198.out _).trans (((cell_far (p := ⟨gb198, _, none⟩) NB197_198.out _).trans (hHeld.1)))), ((cell_far (p := ⟨gb198, _, none⟩) NB197_198.out _).trans (((cell_far (p := ⟨gb198, _, none⟩) NB197_198.out _).trans (hHeld.2))))⟩ (fun hHeld => ?_)
  clear hK K
  refine done_ (done_of HT_.out (by kernel_rfl)) ?_
  try go_wp2
  refine bodyPost_ret (results_cell_row rfl _ _ gb198 28 #[.int .i64 a0_0, .slice Ao9 y202.length co9] (0, 0) _ rfl (by (with_reducible repeat (first | refine blk_drewN ?_ _ | refine blk_drew ?_ | refine blk_alloc ?_ _)); exact blk_fill2 BK198.out) Try.underlying28 rfl (by kernel_rfl)) rfl ?_
  exact ⟨_, by first | rfl | (simp [errW_none, errW_some] <;> rfl) | (simp [*, errW_none, errW_some] <;> rfl), by exact (Kd.R_farN HO204.out BK198.out), by exact bel0⟩
 ·rw [if_neg c2] at H
  exact absurd H (by simp)

/-! ### spec_Leave: function 46 -/
def spec_Leave.f (k : Nat) (a0_0 : Int) (l0_1 : List (S40)) : Option (Int × (List (S40)) × Bool) := (spec_TableOk.f k a0_0 l0_1).bind fun t207 => (if t207 = true then ((spec_l10own.f a0_0 l0_1).bind fun bt208 => ((spec_l10find.f k bt208.1 bt208.2 a0_0).bind fun t213 => (if 0 ≤ t213 then (if t213 < (bt208.2.length : Int) then (if ((rd_T40 bt208.2 t213).f1) = 3 then (some (bt208.1, bt208.2, false)) else (some (bt208.1, (bt208.2.set (t213 : Int).toNat (⟨(rd_T40 bt208.2 t213).f0, 3, (rd_T40 bt208.2 t213).f2⟩ : S40)), true))) else (none)) else (none)))) else (some (0, ([] : List (S40)), false)))
theorem spec_Leave.mono : ∀ a0 a1 k, LeO (spec_Leave.f k a0 a1) (spec_Leave.f (k + 1) a0 a1) := by
 intro a0 a1 k
 unfold spec_Leave.f
 repeat' first
   | (with_reducible exact spec_TableOk.mono _ _ _)
   | (with_reducible exact spec_l10find.mono _ _ _ _)
   | (with_reducible exact LeO.refl _)
   | (with_reducible exact LeO.none _)
   | (with_reducible refine LeO.ite ?_ ?_)
   | (with_reducible refine LeO.bind ?_ (fun _ => ?_))
   | exact spec_TableOk.mono _ _ _
   | exact spec_l10find.mono _ _ _ _
   | exact LeO.none _
   | refine LeO.ite ?_ ?_
   | refine LeO.bind ?_ (fun _ => ?_)
set_option maxHeartbeats 8000000 in
set_option maxRecDepth 100000 in
theorem spec_Leave.calls (k : Nat) (a0_0 : Int) (A0_1 : Option Addr) (c0_1 : Nat) (l0_1 : List (S40)) (r1 : Int) (r2 : List (S40)) (r3 : Bool) (w : World) (hr0_1 : Kd.C k40 w A0_1 l0_1.length l0_1) (hc0_1 : l0_1.length ≤ c0_1) (h : spec_Leave.f k a0_0 l0_1 = some (r1, r2, r3)) :
  Calls Try.prog 46 #[.agg #[.int .i64 a0_0, .slice A0_1 l0_1.length c0_1]] w fun e w' => ∃ v1_ : Value, e = .returned (.tuple #[.agg #[.int .i64 r1, v1_], .bool r3]) ∧ Kd.R k40 40 w' w.heap.size (fun _ => True) v1_ r2 ∧ Below w.heap.size w w' := by
 have hu28 := Try.underlying28
 have HR0_1 := Aside0.mk hr0_1; have HC0_1 := Aside0.mk hc0_1; clear hr0_1 hc0_1
 have HB := Aside0.mk (Below.refl w.heap.size w)
 have H : ((spec_TableOk.f k a0_0 l0_1).bind fun t207 => (if t207 = true then ((spec_l10own.f a0_0 l0_1).bind fun bt208 => ((spec_l10find.f k bt208.1 bt208.2 a0_0).bind fun t213 => (if 0 ≤ t213 then (if t213 < (bt208.2.length : Int) then (if ((rd_T40 bt208.2 t213).f1) = 3 then (some (bt208.1, bt208.2, false)) else (some (bt208.1, (bt208.2.set (t213 : Int).toNat (⟨(rd_T40 bt208.2 t213).f0, 3, (rd_T40 bt208.2 t213).f2⟩ : S40)), true))) else (none)) else (none)))) else (some (0, ([] : List (S40)), false)))) = some (r1, r2, r3) := h
 clear h; replace H := Option.bind_eq_some_iff.mp H; obtain ⟨t207, A20, H⟩ := H; have A2 := Aside0.mk A20; clear A20; go_enter Try.func46, Try.ntmps46
 replace H := Aside0.mk H
 go_wp2_with (first | ((with_reducible refine gate_dst (N := 1) rfl ?_); refine box_event ?hg (N := 1) ?hd (cs := #[.int .i64 a0_0, .slice A0_1 l0_1.length c0_1]) (t := 28) ?hr ?_; (case hd => rfl); (case hg => rfl); (case hr => first | (go_simp; done) | (go_simp; rfl)); intro gb205 hg w3 hbox hb; have n_ := an (below_step (by exact bel0) hb) (an (hbox) (an ((by rw [hg]; exact (below_size (by exact bel0)) : w.heap.size ≤ gb205)) (an ((by rw [hg]; exact (below_size (by exact bel0)) : w.heap.size ≤ gb205)) (trivial)))); clear HB; obtain ⟨HB, BK205, GW205, GE205, -⟩ := n_; clear hb hbox hg) | ((with_reducible refine gate_dst (N := 2) rfl ?_); refine box_event ?hg (N := 2) ?hd (cs := #[.int .i64 0, .slice none 0 0]) (t := 28) ?hr ?_; (case hd => rfl); (case hg => rfl); (case hr => first | (go_simp; done) | (go_simp; rfl)); intro gb206 hg w4 hbox hb; have n_ := an (blk_below (blk_nw BK205.out) hb) (an (below_step (by exact bel0) hb) (an (hbox) (an ((by rw [hg]; exact (below_size (by exact bel0)) : w.heap.size ≤ gb206)) (an ((by rw [hg]; exact (below_size (by exact bel0)) : w.heap.size ≤ gb206)) (an ((by rw [hg]; exact Nat.ne_of_lt (blk_lt (blk_nw BK205.out)) : gb205 ≠ gb206)) (an ((by rw [hg]; exact Nat.ne_of_gt (blk_lt (blk_nw BK205.out)) : gb206 ≠ gb205)) (trivial))))))); clear BK205 HB; obtain ⟨BK205, HB, BK206, GW206, GE206, NB205_206, NB206_205, -⟩ := n_; clear hb hbox hg; have hnb5 := NB205_206.out; have hnc5 := NB206_205.out; obtain ⟨hcz6_0, hcz6_1⟩ := blkz2 BK205.out; have hfz6_0 := blkf BK205.out) | ((with_reducible refine gate_callee (f := 8) rfl ?_); refine goesL_ (some 7) rfl rfl Try.func8 (by kernel_rfl) rfl #[.agg #[.int .i64 a0_0, .slice A0_1 l0_1.length c0_1]] rfl (by (try simp only [List.map_toArray, List.map_cons, List.map_nil]); first | done | rfl | (simp only [List.length_drop, List.length_take]; rfl)) ?_; (with_reducible refine (spec_TableOk.calls k a0_0 _ _ l0_1 t207 _ ?side1 ?side2 A2.out).mono ?_); (case side1 => repeat (first | exact (Kd.C_below HR0_1.out HB.out) | (with_reducible refine Kd.C_alloc ?_ _) | (with_reducible refine Kd.C_drewN ?_ _) | (with_reducible refine Kd.C_drew ?_))); (case side2 => exact HC0_1.out); rintro e w7 ⟨rfl, hb⟩; refine ⟨_, rfl, ?_⟩; have n_ := an (blk_below (blk_nw BK205.out) hb) (an (blk_below (blk_nw BK206.out) hb) (an (below_step (by exact bel0) hb) (trivial))); clear BK205 BK206 HB; obtain ⟨BK205, BK206, HB, -⟩ := n_; (try clear hb); (try clear hb2); (try clear hk); (try clear hi); refine Stop.out ?_))
 refine Stop.mk ?_
 replace H := H.out
 by_cases c8 : t207 = true
 ·subst c8; rw [if_pos rfl] at H; replace H := Option.bind_eq_some_iff.mp H
  obtain ⟨⟨t208, t209⟩, A90, H⟩ := H
  replace H : ((spec_l10find.f k t208 t209 a0_0).bind fun t213 => (if 0 ≤ t213 then (if t213 < (t209.length : Int) then (if ((rd_T40 t209 t213).f1) = 3 then (some (t208, t209, false)) else (some (t208, (t209.set (t213 : Int).toNat (⟨(rd_T40 t209 t213).f0, 3, (rd_T40 t209 t213).f2⟩ : S40)), true))) else (none)) else (none))) = some (r1, r2, r3) := H
  have A9 := Aside0.mk A90; clear A90; replace H := Option.bind_eq_some_iff.mp H; obtain ⟨t213, A100, H⟩ := H; have A10 := Aside0.mk A100; clear A100; have hnb11 := NB205_206.out; have hnc11 := NB206_205.out; obtain ⟨hcz12_0, hcz12_1⟩ := blkz2 BK205.out; have hfz12_0 := blkf BK205.out
  replace H := Aside0.mk H
  go_wp2_with (first | ((with_reducible refine gate_callee (f := 56) rfl ?_); refine goesL_ (some 11) rfl rfl Try.func56 (by kernel_rfl) rfl #[.agg #[.int .i64 a0_0, .slice A0_1 l0_1.length c0_1]] rfl (by (try simp only [List.map_toArray, List.map_cons, List.map_nil]); first | done | rfl | (simp only [List.length_drop, List.length_take]; rfl)) ?_; (with_reducible refine (spec_l10own.calls a0_0 _ _ l0_1 t208 t209 _ ?side1 ?side2 A9.out).mono ?_); (case side1 => repeat (first | exact (Kd.C_below HR0_1.out HB.out) | (with_reducible refine Kd.C_alloc ?_ _) | (with_reducible refine Kd.C_drewN ?_ _) | (with_reducible refine Kd.C_drew ?_))); (case side2 => exact HC0_1.out); rintro e w13 ⟨v210, rfl, ho0, hb⟩; refine ⟨_, rfl, ?_⟩; have n_ := an (Kd.R_lower ho0 (below_size (by exact bel0))) (an (blk_below (blk_nw BK205.out) hb) (an (blk_below (blk_nw BK206.out) hb) (an (below_step (by exact bel0) hb) (trivial)))); clear BK205 BK206 HB; obtain ⟨HO211, BK205, BK206, HB, -⟩ := n_; (try clear hb); (try clear hb2); (try clear hk); (try clear hi); (try clear ho0)) | ((with_reducible refine gate_dst (N := 4) rfl ?_); refine box_event ?hg (N := 4) ?hd (cs := #[.int .i64 0, .slice none 0 0]) (t := 28) ?hr ?_; (case hd => rfl); (case hg => rfl); (case hr => first | (go_simp; done) | (go_simp; rfl)); intro gb212 hg w14 hbox hb; have n_ := an (Kd.R_below (by exact Kd.R_nw HO211.out) hb) (an (blk_below (blk_nw BK205.out) hb) (an (blk_below (blk_nw BK206.out) hb) (an (below_step (by exact bel0) hb) (an (hbox) (an ((by rw [hg]; exact (below_size (by exact bel0)) : w.heap.size ≤ gb212)) (an ((by rw [hg]; exact (below_size (by exact bel0)) : w.heap.size ≤ gb212)) (an ((by rw [hg]; exact Nat.ne_of_lt (blk_lt (blk_nw BK205.out)) : gb205 ≠ gb212)) (an ((by rw [hg]; exact Nat.ne_of_gt (blk_lt (blk_nw BK205.out)) : gb212 ≠ gb205)) (an ((by rw [hg]; exact Nat.ne_of_lt (blk_lt (blk_nw BK206.out)) : gb206 ≠ gb212)) (an ((by rw [hg]; exact Nat.ne_of_gt (blk_lt (blk_nw BK206.out)) : gb212 ≠ gb206)) (trivial))))))))))); clear HO211 BK205 BK206 HB; obtain ⟨HO211, BK205, BK206, HB, BK212, GW212, GE212, NB205_212, NB212_205, NB206_212, NB212_206, -⟩ := n_; clear hb hbox hg; have hnb15 := NB212_205.out; have hnc15 := NB205_212.out; have hnb16 := NB212_206.out; have hnc16 := NB206_212.out; obtain ⟨hcz17_0, hcz17_1⟩ := blkz2 BK212.out; have hfz17_0 := blkf BK212.out; obtain ⟨Ao18, co18, eo18⟩ := Kd.R_slice HO211.out; subst eo18; obtain ⟨hcz19_0, hcz19_1⟩ := blkz2 BK205.out; have hfz19_0 := blkf BK205.out) | ((with_reducible refine gate_callee (f := 24) rfl ?_); refine goesL_ (some 15) rfl rfl Try.func24 (by kernel_rfl) rfl #[.agg #[.int .i64 t208, .slice Ao18 t209.length co18], .int .i64 a0_0] rfl (by (try simp only [List.map_toArray, List.map_cons, List.map_nil]); first | done | rfl | (simp only [List.length_drop, List.length_take]; rfl)) ?_; (with_reducible refine (spec_l10find.calls k t208 _ _ t209 a0_0 t213 _ ?side1 ?side2 A10.out).mono ?_); (case side1 => refine (Kd.R_reads' (e := 40) (base := w.heap.size) (ok := fun k_ => True) (n := t209.length) (c := co18) ?_).2.2; exact (by exact (Kd.R_farN HO211.out BK212.out))); (case side2 => exact (Kd.R_reads' HO211.out).2.1); rintro e w20 ⟨rfl, hb⟩; refine ⟨_, rfl, ?_⟩; have n_ := an (Kd.R_below (by exact (Kd.R_farN HO211.out BK212.out)) hb) (an (blk_below (blk_kb BK205.out NB205_212.out) hb) (an (blk_below (blk_kb BK206.out NB206_212.out) hb) (an (blk_below (g := gb212) (o := .cells #[.int .i64 t208, .slice Ao18 t209.length co18] 28 (0, 0)) (by (with_reducible repeat (first | refine blk_drewN ?_ _ | refine blk_drew ?_ | refine blk_alloc ?_ _)); exact blk_fill2 BK212.out) hb) (an (below_step (by exact bel0) hb) (trivial))))); clear HO211 BK205 BK206 BK212 HB; obtain ⟨HO211, BK205, BK206, BK212, HB, -⟩ := n_; (try clear hb); (try clear hb2); (try clear hk); (try clear hi); obtain ⟨hcz21_0, hcz21_1⟩ := blkz2 BK212.out; have hfz21_0 := blkf BK212.out; refine Stop.out ?_))
  refine Stop.mk ?_
  replace H := H.out
  by_cases c22 : 0 ≤ t213
  ·rw [if_pos c22] at H; have c22b0 : decide (0 ≤ t213) = true := decide_eq_true c22; clear c22; (try simp only [c22b0])
   by_cases c23 : t213 < (t209.length : Int)
   ·rw [if_pos c23] at H
    have c23b0 : decide (t213 < (t209.length : Int)) = true := decide_eq_true c23
    clear c23; (try simp only [c23b0])
    by_cases c24 : ((rd_T40 t209 t213).f1) = 3
    ·rw [if_pos c24] at H; have c24b0 : (((rd_T40 t209 t213).f1) == 3) = true := beq_iff_eq.mpr c24; have c24b1 : (((rd_T40 t209 t213).f1) != 3) = false := bne_eq_false_iff_eq.mpr c24; clear c24; simp only [Option.some.injEq, Prod.mk.injEq] at H; obtain ⟨rfl, rfl, rfl⟩ := H
     have p214 : 0 ≤ (t213 : Int) := of_decide_eq_true (by first | (with_reducible assumption) | assumption)
     have q214 : t213 < (t209.length : Int) := of_decide_eq_true (by first | (with_reducible assumption) | assumption)
     obtain ⟨ad214, e214, hx214_0, hx214_1, hx214_2⟩ := at_T40 (Kd.R_reads' HO211.out).2.2 t213 p214 q214
     cases e214
     replace p214 := eq_true p214
     replace q214 := eq_true q214
     have hnb25 := NB212_205.out; have hnc25 := NB205_212.out; have hnb26 := NB212_206.out; have hnc26 := NB206_212.out; obtain ⟨hcz27_0, hcz27_1⟩ := blkz2 BK212.out; have hfz27_0 := blkf BK212.out; have hnb28 := NB206_205.out; have hnc28 := NB205_206.out; obtain ⟨hcz29_0, hcz29_1⟩ := blkz2 BK206.out; have hfz29_0 := blkf BK206.out
     go_wp2
     refine bodyPost_ret (results_ct rfl _ _ gb206 28 #[.int .i64 t208, .slice (some ad214) t209.length co18] (0, 0) _ rfl (by (with_reducible repeat (first | refine blk_drewN ?_ _ | refine blk_drew ?_ | refine blk_alloc ?_ _)); exact blk_fill2 BK206.out) Try.underlying28 rfl (by kernel_rfl)) rfl ?_
     exact ⟨_, by first | rfl | (simp [errW_none, errW_some] <;> rfl) | (simp [*, errW_none, errW_some] <;> rfl), by exact (Kd.R_farN HO211.out BK206.out), by exact bel0⟩
    ·rw [if_neg c24] at H; have c24b0 : (((rd_T40 t209 t213).f1) == 3) = false := beq_eq_false_iff_ne.mpr c24; have c24b1 : (((rd_T40 t209 t213).f1) != 3) = true := bne_iff_ne.mpr c24
     obtain ⟨y215, hy215⟩ : ∃ y_ : List (S40), y_ = (t209.set (t213 : Int).toNat (⟨(rd_T40 t209 t213).f0, 3, (rd_T40 t209 t213).f2⟩ : S40)) := ⟨_, rfl⟩
     replace H : (some (t208, y215, true)) = some (r1, r2, r3) := by first | (rw [hy215]; with_reducible exact H) | (rw [hy215]; exact H) | exact H
     have Ny215 := Aside0.mk hy215; clear hy215; simp only [Option.some.injEq, Prod.mk.injEq] at H; obtain ⟨rfl, rfl, rfl⟩ := H
     have p214 : 0 ≤ (t213 : Int) := of_decide_eq_true (by first | (with_reducible assumption) | assumption)
     have q214 : t213 < (t209.length : Int) := of_decide_eq_true (by first | (with_reducible assumption) | assumption)
     obtain ⟨ad214, e214, hx214_0, hx214_1, hx214_2⟩ := at_T40 (Kd.R_reads' HO211.out).2.2 t213 p214 q214
     cases e214
     replace p214 := eq_true p214
     replace q214 := eq_true q214
     have hnb31 := NB212_205.out; have hnc31 := NB205_212.out; have hnb32 := NB212_206.out; have hnc32 := NB206_212.out; obtain ⟨hcz33_0, hcz33_1⟩ := blkz2 BK212.out; have hfz33_0 := blkf BK212.out
     have p30 : 0 ≤ (t213 : Int) := of_decide_eq_true (by first | (with_reducible assumption) | assumption)
     have q30 : (t213 : Int) < ((t209.length : Int) : Int) := of_decide_eq_true (by first | (with_reducible assumption) | assumption)
     obtain ⟨go30, co30, eo30, gb30, gl30, cl30, HG30⟩ := Kd.R_form HO211.out (by omega)
     (first | cases eo30 | (injection eo30 with ea_ en_ ec_; (first | subst ea_ | (injection ea_ with ea_; subst ea_)); subst ec_; clear en_))
     have GB30 := Aside0.mk gb30; have GG30 := Aside0.mk HG30; clear gb30 gl30 HG30
     (first | simp only [add_plain] at hx214_0 | skip)
     (first | simp only [add_plain] at hx214_1 | skip)
     (first | simp only [add_plain] at hx214_2 | skip)
     obtain ⟨ce30, hcl30, hM30, hcc30, hfr30⟩ := Kd.R_elem HO211.out z40 (t213 : Int) p30 q30
     obtain rfl := k40_openM hM30
     have hx30_0 : w20.cell? ⟨go30, (t213 : Int).toNat * 3, none⟩ = some (.int .i64 ((rd_T40 t209 t213).f0)) := hcc30 0 _ rfl
     have hx30_1 : w20.cell? ⟨go30, (t213 : Int).toNat * 3 + 1, none⟩ = some (.int .i64 ((rd_T40 t209 t213).f1)) := hcc30 1 _ rfl
     have hx30_2 : w20.cell? ⟨go30, (t213 : Int).toNat * 3 + 2, none⟩ = some (.int .i64 ((rd_T40 t209 t213).f2)) := hcc30 2 _ rfl
     have hf30_0 : w20.frozen? ⟨go30, (t213 : Int).toNat * 3, none⟩ = false := hfr30 0
     have hf30_1 : w20.frozen? ⟨go30, (t213 : Int).toNat * 3 + 1, none⟩ = false := hfr30 1
     have hf30_2 : w20.frozen? ⟨go30, (t213 : Int).toNat * 3 + 2, none⟩ = false := hfr30 2
     clear hcl30 hcc30 hfr30 hM30
     replace p30 := eq_true p30
     replace q30 := eq_true q30
     have HX34 := Aside0.mk (show Kd.R k40 40 w20 w.heap.size (fun _ => True) (.slice (some ⟨go30, 0, none⟩) t209.length co18) t209 from (by exact Kd.R_nw HO211.out))
     obtain ⟨ce34, hcl34, hM34, hcc34, hfr34⟩ := Kd.R_elem HX34.out z40 (t213 : Int) (of_decide_eq_true (by first | (with_reducible assumption) | assumption)) (by have h_ : (t213 : Int) < ((t209.length : Int) : Int) := of_decide_eq_true (by first | (with_reducible assumption) | assumption); first | exact h_ | (have e_ := (Kd.R_reads' HO211.out).1; omega) | simpa using h_)
     obtain rfl := k40_openM hM34
     have HP34 := Kd.R_seg HX34.out (t213 : Int) (of_decide_eq_true (by first | (with_reducible assumption) | assumption)) (by have h_ : (t213 : Int) < ((t209.length : Int) : Int) := of_decide_eq_true (by first | (with_reducible assumption) | assumption); first | exact h_ | (have e_ := (Kd.R_reads' HO211.out).1; omega) | simpa using h_) (seg := [.int .i64 3]) (j := 1) hcl34 hcc34 (show 2 ≤ 3 from by decide) (x' := (⟨(rd_T40 t209 t213).f0, 3, (rd_T40 t209 t213).f2⟩ : S40)) (k40_mkM _ _ _ (⟨(rd_T40 t209 t213).f0, 3, (rd_T40 t209 t213).f2⟩ : S40) ) (fun _ hk => hk)
     have hx34_1 := hcc34 1 _ rfl
     (try simp only [show (k40).sz = 3 from rfl, Nat.mul_one, Nat.add_zero] at hx34_1)
     have hf34_1 := hfr34 1
     (try simp only [show (k40).sz = 3 from rfl, Nat.mul_one, Nat.add_zero] at hf34_1)
     clear hcl34 hcc34 hfr34 hM34
     go_wp2_with (first | ((with_reducible refine gate_store (t := 3) (p := 28) rfl ?_); refine store_event (t := 3) (p := 28) (v := ?vo_w35) (w1 := (w20.setCell ⟨go30, (t213 : Int).toNat * 3 + 1, none⟩ (.int .i64 3))) ?hg ?ho ?hn ?hr ?_; (case ho => rfl); (case hg => rfl); (case hn => rfl); (case hr => first | (go_simp; done) | (go_simp; rfl)); intro w35 hw; have hg : w20.grownBy w35 (some go30) := (by rw [hw]; exact HP34.2); have hp_ : Kd.R k40 40 w35 w.heap.size (fun _ => True) (.slice (some ⟨go30, 0, none⟩) t209.length co18) y215 := (by rw [hw, Ny215.out]; exact HP34.1); clear HP34; have n_ := an (blk_grown (blk_nw BK205.out) hg (Kd.R_ne HO211.out BK205.out (by decide))) (an (blk_grown (blk_nw BK206.out) hg (Kd.R_ne HO211.out BK206.out (by decide))) (an (hp_) (an (blk_grown (blk_nw BK212.out) hg (Kd.R_ne HO211.out BK212.out (by decide))) (an ((by rw [hw]; exact below_set (HB.out) GB30.out : Below w.heap.size w w35)) (trivial))))); clear BK205 BK206 HO211 BK212 HB; obtain ⟨BK205, BK206, HO211, BK212, HB, -⟩ := n_; clear hg hw hp_; obtain ⟨hcz36_0, hcz36_1⟩ := blkz2 BK212.out; have hfz36_0 := blkf BK212.out; have hnb37 := NB206_205.out; have hnc37 := NB205_206.out; obtain ⟨hcz38_0, hcz38_1⟩ := blkz2 BK206.out; have hfz38_0 := blkf BK206.out))
     refine bodyPost_ret (results_ct rfl _ _ gb206 28 #[.int .i64 t208, .slice (some ⟨go30, 0, none⟩) t209.length co18] (0, 0) _ rfl (by (with_reducible repeat (first | refine blk_drewN ?_ _ | refine blk_drew ?_ | refine blk_alloc ?_ _)); exact blk_fill2 BK206.out) Try.underlying28 rfl (by kernel_rfl)) rfl ?_
     exact ⟨_, by first | rfl | (simp [errW_none, errW_some] <;> rfl) | (simp [*, errW_none, errW_some] <;> rfl), by exact (Kd.R_farN HO211.out BK206.out), by exact bel0⟩
   ·rw [if_neg c23] at H
    exact absurd H (by simp)
  ·rw [if_neg c22] at H
   exact absurd H (by simp)
 ·replace c8 := Bool.eq_false_iff.mpr c8
  subst c8
  rw [if_neg (show ¬ (false = true) by decide)] at H
  simp only [Option.some.injEq, Prod.mk.injEq] at H; obtain ⟨rfl, rfl, rfl⟩ := H; have hnb39 := NB206_205.out; have hnc39 := NB205_206.out; obtain ⟨hcz40_0, hcz40_1⟩ := blkz2 BK206.out; have hfz40_0 := blkf BK206.out
  go_wp2
  refine bodyPost_ret (results_ct rfl _ _ gb206 28 #[.int .i64 0, .slice none 0 0] (0, 0) _ rfl (by (with_reducible repeat (first | refine blk_drewN ?_ _ | refine blk_drew ?_ | refine blk_alloc ?_ _)); exact blk_fill2 BK206.out) Try.underlying28 rfl (by kernel_rfl)) rfl ?_
  exact ⟨_, by first | rfl | (simp [errW_none, errW_some] <;> rfl) | (simp [*, errW_none, errW_some] <;> rfl), by first | exact Kd.R_nil _ _ _ _ _ | exact Kd.N_nil _ _ _ _ _ | exact Kd.V_nil _ _ _ _ _ | exact Kd.Q_nil _ _ _ _ _ | exact Kd.S_nil _ _ _ _ _, by exact bel0⟩

/-! ### spec_l10table: function 32 -/
def spec_l10table.l0 : Nat → Int → Int → List Int → Int → Int → Int → List (S40) → Option (Int × (List (S40)) × Int × Int)
  | 0, _, _, _, _, _, _, _ => none
  | k + 1, x5, x6, x1000, x1001, x1002, x226000, x226001 => if x6 < x5 then ((spec_l10member.f x1000 x1001 x1002).bind fun bt229 => ((spec_l10say.f k x226000 x226001 bt229.1 bt229.2.1 bt229.2.2.1).bind fun bt234 => (spec_l10table.l0 k x5 (wrap64 (x6 + 1)) x1000 bt229.2.2.2.1 bt229.2.2.2.2 bt234.2.1 bt234.2.2))) else ((spec_l1Once.f x1000 x1001 x1002 8).bind fun bt239 => (if bt239.1 = true then ((spec_Leave.f k x226000 x226001).bind fun bt242 => (some (bt242.1, bt242.2.1, bt239.2.1, bt239.2.2))) else (some (x226000, x226001, bt239.2.1, bt239.2.2))))
def spec_l10table.f (k : Nat) (s0_0 : List Int) (s0_1 : Int) (s0_2 : Int) : Option (Int × (List (S40)) × Int × Int) := (spec_l1Below.f s0_0 s0_1 s0_2 6).bind fun bt217 => ((spec_TableNew.f bt217.1).bind fun bt220 => ((spec_l1Below.f s0_0 bt217.2.1 bt217.2.2 8).bind fun bt226 => (spec_l10table.l0 k bt226.1 0 s0_0 bt226.2.1 bt226.2.2 bt220.1 bt220.2.1)))
theorem spec_l10table.mono_l : ∀ k, (∀ y0 y1 y2 y3 y4 y5 y6, LeO (spec_l10table.l0 k y0 y1 y2 y3 y4 y5 y6) (spec_l10table.l0 (k + 1) y0 y1 y2 y3 y4 y5 y6))
 | 0 => fun _ _ _ _ _ _ _ r h => by simp [spec_l10table.l0] at h
 | k + 1 => by
  have ih0 := spec_l10table.mono_l k
  ·intro y0 y1 y2 y3 y4 y5 y6
   unfold spec_l10table.l0
   repeat' first
   | (with_reducible exact ih0 _ _ _ _ _ _ _)
   | (with_reducible exact spec_Leave.mono _ _ _)
   | (with_reducible exact spec_l10say.mono _ _ _ _ _ _)
   | (with_reducible exact LeO.refl _)
   | (with_reducible exact LeO.none _)
   | (with_reducible refine LeO.ite ?_ ?_)
   | (with_reducible refine LeO.bind ?_ (fun _ => ?_))
   | exact ih0 _ _ _ _ _ _ _
   | exact spec_Leave.mono _ _ _
   | exact spec_l10say.mono _ _ _ _ _ _
   | exact LeO.none _
   | refine LeO.ite ?_ ?_
   | refine LeO.bind ?_ (fun _ => ?_)
theorem spec_l10table.mono : ∀ a0 a1 a2 k, LeO (spec_l10table.f k a0 a1 a2) (spec_l10table.f (k + 1) a0 a1 a2) := by
 intro a0 a1 a2 k
 have ih0 := spec_l10table.mono_l k
 unfold spec_l10table.f
 repeat' first
   | (with_reducible exact ih0 _ _ _ _ _ _ _)
   | (with_reducible exact spec_Leave.mono _ _ _)
   | (with_reducible exact spec_l10say.mono _ _ _ _ _ _)
   | (with_reducible exact LeO.refl _)
   | (with_reducible exact LeO.none _)
   | (with_reducible refine LeO.ite ?_ ?_)
   | (with_reducible refine LeO.bind ?_ (fun _ => ?_))
   | exact ih0 _ _ _ _ _ _ _
   | exact spec_Leave.mono _ _ _
   | exact spec_l10say.mono _ _ _ _ _ _
   | exact LeO.none _
   | refine LeO.ite ?_ ?_
   | refine LeO.bind ?_ (fun _ => ?_)
set_option maxHeartbeats 8000000 in
set_option maxRecDepth 100000 in
theorem spec_l10table.calls (k : Nat) (g : Nat) (s0_0 : List Int) (s0_1 : Int) (s0_2 : Int) (r1 : Int) (r2 : List (S40)) (r3 : Int) (r4 : Int) (w0 w : World) (hI : IsS62 w0 w g s0_0 s0_1 s0_2) (hB : Below w0.heap.size w0 w) (h : spec_l10table.f k s0_0 s0_1 s0_2 = some (r1, r2, r3, r4)) :
  Calls Try.prog 32 #[.pointer (some ⟨g, 0, none⟩)] w fun e w' => ∃ v1_ : Value, e = .returned (.agg #[.int .i64 r1, v1_]) ∧ Kd.R k40 40 w' w.heap.size (fun _ => True) v1_ r2 ∧ IsS62 w0 w' g s0_0 r3 r4 ∧ Below w0.heap.size w0 w' ∧ KeepBut w w' g none := by
 have hu28 := Try.underlying28
 have HI0 := Aside0.mk hI
 have HK := Aside0.mk (KeepBut.refl w g none)
 have HL := Aside0.mk hB.size
 clear hI
 have HW0 := Aside0.mk hB.size
 have HB := Aside0.mk hB; clear hB
 have H : ((spec_l1Below.f s0_0 s0_1 s0_2 6).bind fun bt217 => ((spec_TableNew.f bt217.1).bind fun bt220 => ((spec_l1Below.f s0_0 bt217.2.1 bt217.2.2 8).bind fun bt226 => (spec_l10table.l0 k bt226.1 0 s0_0 bt226.2.1 bt226.2.2 bt220.1 bt220.2.1)))) = some (r1, r2, r3, r4) := h
 clear h; replace H := Option.bind_eq_some_iff.mp H
 obtain ⟨⟨t217, t218, t219⟩, A20, H⟩ := H
 replace H : ((spec_TableNew.f t217).bind fun bt220 => ((spec_l1Below.f s0_0 t218 t219 8).bind fun bt226 => (spec_l10table.l0 k bt226.1 0 s0_0 bt226.2.1 bt226.2.2 bt220.1 bt220.2.1))) = some (r1, r2, r3, r4) := H
 have A2 := Aside0.mk A20; clear A20; replace H := Option.bind_eq_some_iff.mp H
 obtain ⟨⟨t220, t221, t224⟩, A30, H⟩ := H
 replace H : ((spec_l1Below.f s0_0 t218 t219 8).bind fun bt226 => (spec_l10table.l0 k bt226.1 0 s0_0 bt226.2.1 bt226.2.2 t220 t221)) = some (r1, r2, r3, r4) := H
 have A3 := Aside0.mk A30; clear A30; replace H := Option.bind_eq_some_iff.mp H
 obtain ⟨⟨t226, t227, t228⟩, A40, H⟩ := H
 replace H : (spec_l10table.l0 k t226 0 s0_0 t227 t228 t220 t221) = some (r1, r2, r3, r4) := H
 have A4 := Aside0.mk A40; clear A40
 have H' := Aside0.mk H
 clear H; go_enter Try.func32, Try.ntmps32
 go_wp2_with (first | ((with_reducible refine gate_dst (N := 2) rfl ?_); refine box_event ?hg (N := 2) ?hd (cs := #[.int .i64 0, .slice none 0 0]) (t := 28) ?hr ?_; (case hd => rfl); (case hg => rfl); (case hr => first | (go_simp; done) | (go_simp; rfl)); intro gb216 hg w5 hbox hb; have n_ := an (IsS62.below (by repeat (first | (with_reducible first | exact HI0.out | apply IsS62.alloc | apply IsS62.drewN | apply IsS62.drew | apply IsS62.set_1 | apply IsS62.set_2) | exact HI0.out)) hb) (an (KeepBut.trans (by repeat (first | (with_reducible first | exact HK.out | apply KeepBut.set_ | apply keep_drewN | apply keep_drew | apply keep_alloc) | exact HK.out)) (KeepBut.of_below hb g none) (.inl rfl)) (an (below_step (by repeat (first | (with_reducible first | exact HB.out | apply below_alloc | apply pw_below_drewN | apply below_drew1 | refine below_set ?_ (IsS62.ge HI0.out)) | exact HB.out)) hb) (an (hbox) (an ((by rw [hg]; exact (keep_size (w := w) (g := g) (row := none) (by repeat (first | (with_reducible first | exact HK.out | apply KeepBut.set_ | apply keep_drewN | apply keep_drew | apply keep_alloc) | exact HK.out))) : w.heap.size ≤ gb216)) (an ((Nat.le_trans HW0.out (by rw [hg]; exact (keep_size (w := w) (g := g) (row := none) (by repeat (first | (with_reducible first | exact HK.out | apply KeepBut.set_ | apply keep_drewN | apply keep_drew | apply keep_alloc) | exact HK.out))) : w.heap.size ≤ gb216) : w0.heap.size ≤ gb216)) (an ((by rw [hg]; exact Nat.ne_of_lt (IsS62.lt (show IsS62 w0 _ g s0_0 s0_1 s0_2 from by repeat (first | (with_reducible first | exact HI0.out | apply IsS62.alloc | apply IsS62.drewN | apply IsS62.drew | apply IsS62.set_1 | apply IsS62.set_2) | exact HI0.out))) : g ≠ gb216)) (an ((by rw [hg]; exact Nat.ne_of_gt (IsS62.lt (show IsS62 w0 _ g s0_0 s0_1 s0_2 from by repeat (first | (with_reducible first | exact HI0.out | apply IsS62.alloc | apply IsS62.drewN | apply IsS62.drew | apply IsS62.set_1 | apply IsS62.set_2) | exact HI0.out))) : gb216 ≠ g)) (trivial)))))))); clear HI0 HK HB; obtain ⟨HI0, HK, HB, BK216, GW216, GE216, NB0_216, NB216_0, -⟩ := n_; clear hb hbox hg) | ((with_reducible refine gate_callee (f := 34) rfl ?_); refine goesL_ (some 9) rfl rfl Try.func34 (by kernel_rfl) rfl #[.pointer (some ⟨g, 0, none⟩), .int .i64 6] rfl (by (try simp only [List.map_toArray, List.map_cons, List.map_nil]); first | done | rfl | (simp only [List.length_drop, List.length_take]; rfl)) ?_; (with_reducible refine (spec_l1Below.calls g s0_0 s0_1 s0_2 6 t217 t218 t219 w0 _ ?side1 ?side2 A2.out).mono ?_); (case side1 => repeat (first | (with_reducible first | exact HI0.out | apply IsS62.alloc | apply IsS62.drewN | apply IsS62.drew | apply IsS62.set_1 | apply IsS62.set_2 | refine IsS62.far ?_ NB0_216.out _) | exact HI0.out)); (case side2 => repeat (first | (with_reducible first | exact HB.out | apply below_alloc | apply pw_below_drewN | apply below_drew1 | refine below_set ?_ (IsS62.ge HI0.out) | refine below_set ?_ GE216.out) | exact HB.out)); rintro e w6 ⟨rfl, hi, hb, hk⟩; refine ⟨_, rfl, ?_⟩; have n_ := an (KeepBut.blk hk (blk_nw BK216.out) NB216_0.out (by simp)) (an (KeepBut.trans (by repeat (first | (with_reducible first | exact HK.out | apply KeepBut.set_ | apply keep_drewN | apply keep_drew | apply keep_alloc | refine keep_far ?_ GW216.out _) | exact HK.out)) hk (.inl rfl)) (an (hb) (an (hi) (trivial)))); clear BK216 HK HB HI0; obtain ⟨BK216, HK, HB, HI0, -⟩ := n_; (try clear hb); (try clear hb2); (try clear hk); (try clear hi)) | ((with_reducible refine gate_callee (f := 44) rfl ?_); refine goesL_ (some 10) rfl rfl Try.func44 (by kernel_rfl) rfl #[.int .i64 t217] rfl (by (try simp only [List.map_toArray, List.map_cons, List.map_nil]); first | done | rfl | (simp only [List.length_drop, List.length_take]; rfl)) ?_; (with_reducible refine (spec_TableNew.calls t217 t220 t221 t224 _ A3.out).mono ?_); rintro e w7 ⟨v222, rfl, ho0, hb⟩; refine ⟨_, rfl, ?_⟩; have n_ := an (Kd.R_lower ho0 (keep_size (w := w) (g := g) (row := none) (by repeat (first | (with_reducible first | exact HK.out | apply KeepBut.set_ | apply keep_drewN | apply keep_drew | apply keep_alloc | refine keep_far ?_ GW216.out _) | exact HK.out)))) (an (IsS62.below (by repeat (first | (with_reducible first | exact HI0.out | apply IsS62.alloc | apply IsS62.drewN | apply IsS62.drew | apply IsS62.set_1 | apply IsS62.set_2 | refine IsS62.far ?_ NB0_216.out _) | exact HI0.out)) hb) (an (blk_below (blk_nw BK216.out) hb) (an (KeepBut.trans (by repeat (first | (with_reducible first | exact HK.out | apply KeepBut.set_ | apply keep_drewN | apply keep_drew | apply keep_alloc | refine keep_far ?_ GW216.out _) | exact HK.out)) (KeepBut.of_below hb g none) (.inl rfl)) (an (below_step (by repeat (first | (with_reducible first | exact HB.out | apply below_alloc | apply pw_below_drewN | apply below_drew1 | refine below_set ?_ (IsS62.ge HI0.out) | refine below_set ?_ GE216.out) | exact HB.out)) hb) (trivial))))); clear HI0 BK216 HK HB; obtain ⟨HO223, HI0, BK216, HK, HB, -⟩ := n_; (try clear hb); (try clear hb2); (try clear hk); (try clear hi); (try clear ho0)) | ((with_reducible refine gate_dst (N := 3) rfl ?_); refine box_event ?hg (N := 3) ?hd (cs := #[.int .i64 0, .slice none 0 0]) (t := 28) ?hr ?_; (case hd => rfl); (case hg => rfl); (case hr => first | (go_simp; done) | (go_simp; rfl)); intro gb225 hg w8 hbox hb; have n_ := an (Kd.R_below (by exact Kd.R_nw HO223.out) hb) (an (IsS62.below (by repeat (first | (with_reducible first | exact HI0.out | apply IsS62.alloc | apply IsS62.drewN | apply IsS62.drew | apply IsS62.set_1 | apply IsS62.set_2 | refine IsS62.far ?_ NB0_216.out _) | exact HI0.out)) hb) (an (blk_below (blk_nw BK216.out) hb) (an (KeepBut.trans (by repeat (first | (with_reducible first | exact HK.out | apply KeepBut.set_ | apply keep_drewN | apply keep_drew | apply keep_alloc | refine keep_far ?_ GW216.out _) | exact HK.out)) (KeepBut.of_below hb g none) (.inl rfl)) (an (below_step (by repeat (first | (with_reducible first | exact HB.out | apply below_alloc | apply pw_below_drewN | apply below_drew1 | refine below_set ?_ (IsS62.ge HI0.out) | refine below_set ?_ GE216.out) | exact HB.out)) hb) (an (hbox) (an ((by rw [hg]; exact (keep_size (w := w) (g := g) (row := none) (by repeat (first | (with_reducible first | exact HK.out | apply KeepBut.set_ | apply keep_drewN | apply keep_drew | apply keep_alloc | refine keep_far ?_ GW216.out _) | exact HK.out))) : w.heap.size ≤ gb225)) (an ((Nat.le_trans HW0.out (by rw [hg]; exact (keep_size (w := w) (g := g) (row := none) (by repeat (first | (with_reducible first | exact HK.out | apply KeepBut.set_ | apply keep_drewN | apply keep_drew | apply keep_alloc | refine keep_far ?_ GW216.out _) | exact HK.out))) : w.heap.size ≤ gb225) : w0.heap.size ≤ gb225)) (an ((by rw [hg]; exact Nat.ne_of_lt (blk_lt (blk_nw BK216.out)) : gb216 ≠ gb225)) (an ((by rw [hg]; exact Nat.ne_of_gt (blk_lt (blk_nw BK216.out)) : gb225 ≠ gb216)) (an ((by rw [hg]; exact Nat.ne_of_lt (IsS62.lt (show IsS62 w0 _ g s0_0 t218 t219 from by repeat (first | (with_reducible first | exact HI0.out | apply IsS62.alloc | apply IsS62.drewN | apply IsS62.drew | apply IsS62.set_1 | apply IsS62.set_2 | refine IsS62.far ?_ NB0_216.out _) | exact HI0.out))) : g ≠ gb225)) (an ((by rw [hg]; exact Nat.ne_of_gt (IsS62.lt (show IsS62 w0 _ g s0_0 t218 t219 from by repeat (first | (with_reducible first | exact HI0.out | apply IsS62.alloc | apply IsS62.drewN | apply IsS62.drew | apply IsS62.set_1 | apply IsS62.set_2 | refine IsS62.far ?_ NB0_216.out _) | exact HI0.out))) : gb225 ≠ g)) (trivial)))))))))))); clear HO223 HI0 BK216 HK HB; obtain ⟨HO223, HI0, BK216, HK, HB, BK225, GW225, GE225, NB216_225, NB225_216, NB0_225, NB225_0, -⟩ := n_; clear hb hbox hg; have hnb9 := NB225_216.out; have hnc9 := NB216_225.out; have hnb10 := NB225_0.out; have hnc10 := NB0_225.out; obtain ⟨hcz11_0, hcz11_1⟩ := blkz2 BK225.out; have hfz11_0 := blkf BK225.out; obtain ⟨Ao12, co12, eo12⟩ := Kd.R_slice HO223.out; subst eo12) | ((with_reducible refine gate_store (t := 28) (p := 3) rfl ?_); refine store_event (t := 28) (p := 3) (v := ?vo_w13) (w1 := ((w8.setCell ⟨gb225, 0, none⟩ (.int .i64 t220)).setCell ⟨gb225, 1, none⟩ (.slice Ao12 t221.length co12))) ?hg ?ho ?hn ?hr ?_; (case ho => rfl); (case hg => rfl); (case hn => rfl); (case hr => first | (go_simp; done) | (go_simp; rfl)); intro w13 hw; have n0_ : Aside0 (Kd.R k40 40 w13 w.heap.size (fun _ => True) (.slice Ao12 t221.length co12) t221) := ⟨(by rw [hw]; exact (by exact (Kd.R_farN HO223.out BK225.out)))⟩; have n1_ : Aside0 (w13.heap[gb216]? = some (.cells #[.int .i64 0, .slice none 0 0] 28 (0, 0))) := ⟨(by rw [hw]; exact (by exact blk_kb BK216.out NB216_225.out))⟩; have n2_ : Aside0 (w13.heap[gb225]? = some (.cells #[.int .i64 t220, .slice Ao12 t221.length co12] 28 (0, 0))) := ⟨(by rw [hw]; exact (by (with_reducible repeat (first | refine blk_drewN ?_ _ | refine blk_drew ?_ | refine blk_alloc ?_ _)); exact blk_fill2 BK225.out))⟩; have n3_ : Aside0 (IsS62 w0 w13 g s0_0 t218 t219) := ⟨(by rw [hw]; exact (by repeat (first | (with_reducible first | exact HI0.out | apply IsS62.alloc | apply IsS62.drewN | apply IsS62.drew | apply IsS62.set_1 | apply IsS62.set_2 | refine IsS62.far ?_ NB0_216.out _ | refine IsS62.far ?_ NB0_225.out _) | exact HI0.out)))⟩; have n4_ : Aside0 (KeepBut w w13 g none) := ⟨(by rw [hw]; exact (by repeat (first | (with_reducible first | exact HK.out | apply KeepBut.set_ | apply keep_drewN | apply keep_drew | apply keep_alloc | refine keep_far ?_ GW216.out _ | refine keep_far ?_ GW225.out _) | exact HK.out)))⟩; have n5_ : Aside0 (Below w0.heap.size w0 w13) := ⟨(by rw [hw]; exact (by repeat (first | (with_reducible first | exact HB.out | apply below_alloc | apply pw_below_drewN | apply below_drew1 | refine below_set ?_ (IsS62.ge HI0.out) | refine below_set ?_ GE216.out | refine below_set ?_ GE225.out) | exact HB.out)))⟩; clear hw; clear HO223; clear BK216; clear BK225; clear HI0; clear HK; clear HB; have HO223 := n0_; have BK216 := n1_; have BK225 := n2_; have HI0 := n3_; have HK := n4_; have HB := n5_; clear n0_ n1_ n2_ n3_ n4_ n5_) | ((with_reducible refine gate_callee (f := 34) rfl ?_); refine goesL_ (some 14) rfl rfl Try.func34 (by kernel_rfl) rfl #[.pointer (some ⟨g, 0, none⟩), .int .i64 8] rfl (by (try simp only [List.map_toArray, List.map_cons, List.map_nil]); first | done | rfl | (simp only [List.length_drop, List.length_take]; rfl)) ?_; (with_reducible refine (spec_l1Below.calls g s0_0 t218 t219 8 t226 t227 t228 w0 _ ?side1 ?side2 A4.out).mono ?_); (case side1 => repeat (first | (with_reducible first | exact HI0.out | apply IsS62.alloc | apply IsS62.drewN | apply IsS62.drew | apply IsS62.set_1 | apply IsS62.set_2 | refine IsS62.far ?_ NB0_216.out _ | refine IsS62.far ?_ NB0_225.out _) | exact HI0.out)); (case side2 => repeat (first | (with_reducible first | exact HB.out | apply below_alloc | apply pw_below_drewN | apply below_drew1 | refine below_set ?_ (IsS62.ge HI0.out) | refine below_set ?_ GE216.out | refine below_set ?_ GE225.out) | exact HB.out)); rintro e w14 ⟨rfl, hi, hb, hk⟩; refine ⟨_, rfl, ?_⟩; have n_ := an (KeepBut.blk hk (blk_nw BK216.out) NB216_0.out (by simp)) (an (Kd.R_mono (Kd.R_keep (IsS62.apart (show IsS62 w0 _ g s0_0 t218 t219 from by repeat (first | (with_reducible first | exact HI0.out | apply IsS62.alloc | apply IsS62.drewN | apply IsS62.drew | apply IsS62.set_1 | apply IsS62.set_2 | refine IsS62.far ?_ NB0_216.out _ | refine IsS62.far ?_ NB0_225.out _) | exact HI0.out)) (by exact Kd.R_nw HO223.out) (by decide)) hk (fun _ h => h.2)) (fun _ h => h.1)) (an (KeepBut.blk hk (blk_nw BK225.out) NB225_0.out (by simp)) (an (KeepBut.trans (by repeat (first | (with_reducible first | exact HK.out | apply KeepBut.set_ | apply keep_drewN | apply keep_drew | apply keep_alloc | refine keep_far ?_ GW216.out _ | refine keep_far ?_ GW225.out _) | exact HK.out)) hk (.inl rfl)) (an (hb) (an (hi) (trivial)))))); clear BK216 HO223 BK225 HK HB HI0; obtain ⟨BK216, HO223, BK225, HK, HB, HI0, -⟩ := n_; (try clear hb); (try clear hb2); (try clear hk); (try clear hi)))
 go_loopg [6] k (fun kq v6 w' => ∃ (x6_1 : Int) (x1001_1 : Int) (x1002_1 : Int) (x226000_1 : Int) (x226001_1 : List (S40)) (u226001 : Value), v6 = .int .i64 x6_1 ∧ Aside0 (spec_l10table.l0 kq t226 x6_1 s0_0 x1001_1 x1002_1 x226000_1 x226001_1 = some (r1, r2, r3, r4)) ∧ Aside0 (kq ≤ k) ∧ Aside0 (Kd.R k40 40 w' w.heap.size (fun _ => True) u226001 x226001_1) ∧ Aside0 (w'.heap[gb216]? = some (.cells #[.int .i64 0, (.slice none 0 0)] 28 (0, 0))) ∧ Aside0 (w'.heap[gb225]? = some (.cells #[.int .i64 x226000_1, u226001] 28 (0, 0))) ∧ Aside0 (IsS62 w0 w' g s0_0 x1001_1 x1002_1) ∧ Aside0 (KeepBut w w' g none) ∧ Aside0 (Below w0.heap.size w0 w'))
 case atStart => exact ⟨(0), (t227), (t228), (t220), (t221), (.slice Ao12 t221.length co12), (by first | rfl | (simp; done) | (simp [*]; done)), H', ⟨Nat.le_refl _⟩, ⟨by exact Kd.R_nw HO223.out⟩, ⟨by exact blk_nw BK216.out⟩, ⟨by exact blk_nw BK225.out⟩, ⟨by repeat (first | (with_reducible first | exact HI0.out | apply IsS62.alloc | apply IsS62.drewN | apply IsS62.drew | apply IsS62.set_1 | apply IsS62.set_2 | refine IsS62.far ?_ NB0_216.out _ | refine IsS62.far ?_ NB0_225.out _) | exact HI0.out)⟩, ⟨by repeat (first | (with_reducible first | exact HK.out | apply KeepBut.set_ | apply keep_drewN | apply keep_drew | apply keep_alloc | refine keep_far ?_ GW216.out _ | refine keep_far ?_ GW225.out _) | exact HK.out)⟩, ⟨by repeat (first | (with_reducible first | exact HB.out | apply below_alloc | apply pw_below_drewN | apply below_drew1 | refine below_set ?_ (IsS62.ge HI0.out) | refine below_set ?_ GE216.out | refine below_set ?_ GE225.out) | exact HB.out)⟩⟩
 case round =>
  clear H'
  try clear c1; try clear p2; try clear c3; try clear c4; try clear c9; try clear c10; try clear hcz11_0; try clear hcz11_1; try clear hfz11_0; try clear hfz11_1
  obtain ⟨x6_1, x1001_1, x1002_1, x226000_1, x226001_1, u226001, rfl, HA, HK1, HO_226001, BK216, BK225, HI0, HK, HB⟩ := hrel
  cases gk with
  | zero => exact absurd HA.out (by simp [spec_l10table.l0])
  | succ k1 =>
   have H := HA.out; clear HA
   simp only [spec_l10table.l0] at H
   by_cases c15 : x6_1 < t226
   ·rw [if_pos c15] at H; have c15b0 : decide (x6_1 < t226) = true := decide_eq_true c15; clear c15; (try simp only [c15b0]); replace H := Option.bind_eq_some_iff.mp H
    obtain ⟨⟨t229, t230, t231, t232, t233⟩, A160, H⟩ := H
    replace H : ((spec_l10say.f k1 x226000_1 x226001_1 t229 t230 t231).bind fun bt234 => (spec_l10table.l0 k1 t226 (wrap64 (x6_1 + 1)) s0_0 t232 t233 bt234.2.1 bt234.2.2)) = some (r1, r2, r3, r4) := H
    have A16 := Aside0.mk A160; clear A160; replace H := Option.bind_eq_some_iff.mp H
    obtain ⟨⟨t234, t235, t236⟩, A170, H⟩ := H
    replace H : (spec_l10table.l0 k1 t226 (wrap64 (x6_1 + 1)) s0_0 t232 t233 t235 t236) = some (r1, r2, r3, r4) := H
    have A17 := Aside0.mk A170; clear A170
    have H' := Aside0.mk H
    clear H
    go_wp2_with (first | ((with_reducible refine gate_callee (f := 36) rfl ?_); refine goesL_ (some 21) rfl rfl Try.func36 (by kernel_rfl) rfl #[.pointer (some ⟨g, 0, none⟩)] rfl (by (try simp only [List.map_toArray, List.map_cons, List.map_nil]); first | done | rfl | (simp only [List.length_drop, List.length_take]; rfl)) ?_; (with_reducible refine (spec_l10member.calls g s0_0 x1001_1 x1002_1 t229 t230 t231 t232 t233 w0 _ ?side1 ?side2 A16.out).mono ?_); (case side1 => repeat (first | (with_reducible first | exact HI0.out | apply IsS62.alloc | apply IsS62.drewN | apply IsS62.drew | apply IsS62.set_1 | apply IsS62.set_2 | refine IsS62.far ?_ NB0_216.out _ | refine IsS62.far ?_ NB0_225.out _) | exact HI0.out)); (case side2 => repeat (first | (with_reducible first | exact HB.out | apply below_alloc | apply pw_below_drewN | apply below_drew1 | refine below_set ?_ (IsS62.ge HI0.out) | refine below_set ?_ GE216.out | refine below_set ?_ GE225.out) | exact HB.out)); rintro e w18 ⟨rfl, hi, hb, hk⟩; refine ⟨_, rfl, ?_⟩; have n_ := an (Kd.R_mono (Kd.R_keep (IsS62.apart (show IsS62 w0 _ g s0_0 x1001_1 x1002_1 from by repeat (first | (with_reducible first | exact HI0.out | apply IsS62.alloc | apply IsS62.drewN | apply IsS62.drew | apply IsS62.set_1 | apply IsS62.set_2 | refine IsS62.far ?_ NB0_216.out _ | refine IsS62.far ?_ NB0_225.out _) | exact HI0.out)) (by exact Kd.R_nw HO_226001.out) (by decide)) hk (fun _ h => h.2)) (fun _ h => h.1)) (an (KeepBut.blk hk (blk_nw BK216.out) NB216_0.out (by simp)) (an (KeepBut.blk hk (blk_nw BK225.out) NB225_0.out (by simp)) (an (KeepBut.trans (by repeat (first | (with_reducible first | exact HK.out | apply KeepBut.set_ | apply keep_drewN | apply keep_drew | apply keep_alloc | refine keep_far ?_ GW216.out _ | refine keep_far ?_ GW225.out _) | exact HK.out)) hk (.inl rfl)) (an (hb) (an (hi) (trivial)))))); clear HO_226001 BK216 BK225 HK HB HI0; obtain ⟨HO_226001, BK216, BK225, HK, HB, HI0, -⟩ := n_; (try clear hb); (try clear hb2); (try clear hk); (try clear hi); obtain ⟨Ao19, co19, eo19⟩ := Kd.R_slice HO_226001.out; subst eo19) | ((with_reducible refine gate_callee (f := 45) rfl ?_); refine goesL_ (some 22) rfl rfl Try.func45 (by kernel_rfl) rfl #[.pointer (some ⟨gb225, 0, none⟩), .agg #[.int .i64 t229, .int .i64 t230, .int .i64 t231]] rfl (by (try simp only [List.map_toArray, List.map_cons, List.map_nil]); first | done | rfl | (simp only [List.length_drop, List.length_take]; rfl)) ?_; (with_reducible refine (spec_l10say.calls k1 gb225 x226000_1 (fun k_ => some k_ = (.slice Ao19 x226001_1.length co19 : Value).ownBlock) (.slice Ao19 x226001_1.length co19) x226001_1 t229 t230 t231 t234 t235 t236 w0 _ ?side1 ?side2 ?side3 ?side4 A17.out).mono ?_); (case side1 => repeat (first | (with_reducible first | exact HB.out | apply below_alloc | apply pw_below_drewN | apply below_drew1 | refine below_set ?_ (IsS62.ge HI0.out) | refine below_set ?_ GE216.out | refine below_set ?_ GE225.out) | exact HB.out)); (case side2 => exact blk_nw BK225.out); (case side3 => exact GE225.out); (case side4 => exact Kd.R_lower (Kd.R_tight rfl HO_226001.out) HL.out); rintro e w20 ⟨rfl, v237, ho0, hi, hb, hkp⟩; refine ⟨_, rfl, ?_⟩; have n_ := an (blk_kept (by exact blk_nw BK216.out) hkp (fun hs_ => Or.elim hs_ (fun hs_ => (fun e_ => (Kd.R_ne HO_226001.out BK216.out (by decide)) e_) hs_) (fun e_ => NB216_225.out e_))) (an (hi) (an (IsS62.kept (by repeat (first | (with_reducible first | exact HI0.out | apply IsS62.alloc | apply IsS62.drewN | apply IsS62.drew | apply IsS62.set_1 | apply IsS62.set_2 | refine IsS62.far ?_ NB0_216.out _ | refine IsS62.far ?_ NB0_225.out _) | exact HI0.out)) hkp (fun hs_ => Or.elim hs_ (fun hs_ => (fun e_ => (IsS62.own_ne HI0.out HO_226001.out (by decide)) e_) hs_) (fun e_ => NB0_225.out e_))) (an (Kd.R_mono (ok' := fun k_ => True) (Kd.R_raise (d := k40) (b := w0.heap.size) (b' := w.heap.size) (fun _ _ _ _ h_ => h_) ho0 (fun k_ e_ => Or.elim (ho0.1 k_ e_) (fun hs_ => (fun e_ => Kd.R_base HO_226001.out k_ e_.symm) hs_) (fun hn_ => Nat.le_trans (keep_size (w := w) (g := g) (row := none) (by repeat (first | (with_reducible first | exact HK.out | apply KeepBut.set_ | apply keep_drewN | apply keep_drew | apply keep_alloc | refine keep_far ?_ GW216.out _ | refine keep_far ?_ GW225.out _) | exact HK.out))) hn_))) (fun k_ hk_ => trivial)) (an (Kept.keepG (by repeat (first | (with_reducible first | exact HK.out | apply KeepBut.set_ | apply keep_drewN | apply keep_drew | apply keep_alloc | refine keep_far ?_ GW216.out _ | refine keep_far ?_ GW225.out _) | exact HK.out)) hkp (fun k_ hs_ => Or.elim hs_ (fun hs_ => (fun e_ => .inr (Kd.R_base HO_226001.out k_ e_.symm)) hs_) (fun e_ => .inr (by rw [e_]; exact GW225.out)))) (an (hb) (trivial)))))); clear BK216 BK225 HI0 HK HB HO_226001; obtain ⟨BK216, BK225, HI0, HO238, HK, HB, -⟩ := n_; (try clear hb); (try clear hkp); (try clear ho0)))
    go_roundg k1
    case measure => have := HK1.out; omega
    case rel => exact ⟨(wrap64 (x6_1 + 1)), (t232), (t233), (t235), (t236), (v237), (by first | rfl | (simp; done) | (simp [*]; done)), H', ⟨by have := HK1.out; omega⟩, ⟨by exact Kd.R_nw HO238.out⟩, ⟨by exact blk_nw BK216.out⟩, ⟨by exact blk_nw BK225.out⟩, ⟨by repeat (first | (with_reducible first | exact HI0.out | apply IsS62.alloc | apply IsS62.drewN | apply IsS62.drew | apply IsS62.set_1 | apply IsS62.set_2 | refine IsS62.far ?_ NB0_216.out _ | refine IsS62.far ?_ NB0_225.out _) | exact HI0.out)⟩, ⟨by repeat (first | (with_reducible first | exact HK.out | apply KeepBut.set_ | apply keep_drewN | apply keep_drew | apply keep_alloc | refine keep_far ?_ GW216.out _ | refine keep_far ?_ GW225.out _) | exact HK.out)⟩, ⟨by repeat (first | (with_reducible first | exact HB.out | apply below_alloc | apply pw_below_drewN | apply below_drew1 | refine below_set ?_ (IsS62.ge HI0.out) | refine below_set ?_ GE216.out | refine below_set ?_ GE225.out) | exact HB.out)⟩⟩
   ·rw [if_neg c15] at H; have c15b0 : decide (x6_1 < t226) = false := decide_eq_false c15; clear c15; (try simp only [c15b0]); replace H := Option.bind_eq_some_iff.mp H
    obtain ⟨⟨t239, t240, t241⟩, A210, H⟩ := H
    replace H : (if t239 = true then ((spec_Leave.f k1 x226000_1 x226001_1).bind fun bt242 => (some (bt242.1, bt242.2.1, t240, t241))) else (some (x226000_1, x226001_1, t240, t241))) = some (r1, r2, r3, r4) := H
    have A21 := Aside0.mk A210; clear A210
    replace H := Aside0.mk H
    go_wp2_with (first | ((with_reducible refine gate_callee (f := 33) rfl ?_); refine goesL_ (some 24) rfl rfl Try.func33 (by kernel_rfl) rfl #[.pointer (some ⟨g, 0, none⟩), .int .i64 8] rfl (by (try simp only [List.map_toArray, List.map_cons, List.map_nil]); first | done | rfl | (simp only [List.length_drop, List.length_take]; rfl)) ?_; (with_reducible refine (spec_l1Once.calls g s0_0 x1001_1 x1002_1 8 t239 t240 t241 w0 _ ?side1 ?side2 A21.out).mono ?_); (case side1 => repeat (first | (with_reducible first | exact HI0.out | apply IsS62.alloc | apply IsS62.drewN | apply IsS62.drew | apply IsS62.set_1 | apply IsS62.set_2 | refine IsS62.far ?_ NB0_216.out _ | refine IsS62.far ?_ NB0_225.out _) | exact HI0.out)); (case side2 => repeat (first | (with_reducible first | exact HB.out | apply below_alloc | apply pw_below_drewN | apply below_drew1 | refine below_set ?_ (IsS62.ge HI0.out) | refine below_set ?_ GE216.out | refine below_set ?_ GE225.out) | exact HB.out)); rintro e w22 ⟨rfl, hi, hb, hk⟩; refine ⟨_, rfl, ?_⟩; have n_ := an (Kd.R_mono (Kd.R_keep (IsS62.apart (show IsS62 w0 _ g s0_0 x1001_1 x1002_1 from by repeat (first | (with_reducible first | exact HI0.out | apply IsS62.alloc | apply IsS62.drewN | apply IsS62.drew | apply IsS62.set_1 | apply IsS62.set_2 | refine IsS62.far ?_ NB0_216.out _ | refine IsS62.far ?_ NB0_225.out _) | exact HI0.out)) (by exact Kd.R_nw HO_226001.out) (by decide)) hk (fun _ h => h.2)) (fun _ h => h.1)) (an (KeepBut.blk hk (blk_nw BK216.out) NB216_0.out (by simp)) (an (KeepBut.blk hk (blk_nw BK225.out) NB225_0.out (by simp)) (an (KeepBut.trans (by repeat (first | (with_reducible first | exact HK.out | apply KeepBut.set_ | apply keep_drewN | apply keep_drew | apply keep_alloc | refine keep_far ?_ GW216.out _ | refine keep_far ?_ GW225.out _) | exact HK.out)) hk (.inl rfl)) (an (hb) (an (hi) (trivial)))))); clear HO_226001 BK216 BK225 HK HB HI0; obtain ⟨HO_226001, BK216, BK225, HK, HB, HI0, -⟩ := n_; (try clear hb); (try clear hb2); (try clear hk); (try clear hi); refine Stop.out ?_))
    refine Stop.mk ?_
    replace H := H.out
    by_cases c23 : t239 = true
    ·subst c23; rw [if_pos rfl] at H; replace H := Option.bind_eq_some_iff.mp H
     obtain ⟨⟨t242, t243, t246⟩, A240, H⟩ := H
     replace H : (some (t242, t243, t240, t241)) = some (r1, r2, r3, r4) := H
     have A24 := Aside0.mk A240; clear A240; simp only [Option.some.injEq, Prod.mk.injEq] at H; obtain ⟨rfl, rfl, rfl, rfl⟩ := H; have hnb25 := NB225_216.out; have hnc25 := NB216_225.out; have hnb26 := NB225_0.out; have hnc26 := NB0_225.out; obtain ⟨hcz27_0, hcz27_1⟩ := blkz2 BK225.out; have hfz27_0 := blkf BK225.out
     obtain ⟨Ao28, co28, eo28⟩ := Kd.R_slice HO_226001.out
     subst eo28
     go_wp2_with (first | ((with_reducible refine gate_callee (f := 46) rfl ?_); refine goesL_ (some 27) rfl rfl Try.func46 (by kernel_rfl) rfl #[.agg #[.int .i64 x226000_1, .slice Ao28 x226001_1.length co28]] rfl (by (try simp only [List.map_toArray, List.map_cons, List.map_nil]); first | done | rfl | (simp only [List.length_drop, List.length_take]; rfl)) ?_; (with_reducible refine (spec_Leave.calls k1 x226000_1 _ _ x226001_1 t242 t243 t246 _ ?side1 ?side2 A24.out).mono ?_); (case side1 => repeat (first | exact (Kd.R_reads' HO_226001.out).2.2 | (with_reducible refine Kd.C_alloc ?_ _) | (with_reducible refine Kd.C_drewN ?_ _) | (with_reducible refine Kd.C_drew ?_))); (case side2 => exact (Kd.R_reads' HO_226001.out).2.1); rintro e w29 ⟨v244, rfl, ho0, hb⟩; refine ⟨_, rfl, ?_⟩; have n_ := an (Kd.R_elder' (by exact Kd.R_nw HO_226001.out) (Kd.R_base ho0) hb) (an (Kd.R_lower (Kd.R_new' ho0 (Kd.R_lt (by exact Kd.R_nw HO_226001.out))) (keep_size (w := w) (g := g) (row := none) (by repeat (first | (with_reducible first | exact HK.out | apply KeepBut.set_ | apply keep_drewN | apply keep_drew | apply keep_alloc | refine keep_far ?_ GW216.out _ | refine keep_far ?_ GW225.out _) | exact HK.out)))) (an (blk_below (blk_nw BK216.out) hb) (an (blk_below (blk_nw BK225.out) hb) (an (IsS62.below (by repeat (first | (with_reducible first | exact HI0.out | apply IsS62.alloc | apply IsS62.drewN | apply IsS62.drew | apply IsS62.set_1 | apply IsS62.set_2 | refine IsS62.far ?_ NB0_216.out _ | refine IsS62.far ?_ NB0_225.out _) | exact HI0.out)) hb) (an (KeepBut.trans (by repeat (first | (with_reducible first | exact HK.out | apply KeepBut.set_ | apply keep_drewN | apply keep_drew | apply keep_alloc | refine keep_far ?_ GW216.out _ | refine keep_far ?_ GW225.out _) | exact HK.out)) (KeepBut.of_below hb g none) (.inl rfl)) (an (below_step (by repeat (first | (with_reducible first | exact HB.out | apply below_alloc | apply pw_below_drewN | apply below_drew1 | refine below_set ?_ (IsS62.ge HI0.out) | refine below_set ?_ GE216.out | refine below_set ?_ GE225.out) | exact HB.out)) hb) (trivial))))))); clear HO_226001 BK216 BK225 HI0 HK HB; obtain ⟨HO_226001, HO245, BK216, BK225, HI0, HK, HB, -⟩ := n_; (try clear hb); (try clear hb2); (try clear hk); (try clear hi); (try clear ho0); obtain ⟨hcz30_0, hcz30_1⟩ := blkz2 BK225.out; have hfz30_0 := blkf BK225.out; obtain ⟨Ao31, co31, eo31⟩ := Kd.R_slice HO245.out; subst eo31) | ((with_reducible refine gate_store (t := 28) (p := 3) rfl ?_); refine store_event (t := 28) (p := 3) (v := ?vo_w32) (w1 := ((w29.setCell ⟨gb225, 0, none⟩ (.int .i64 t242)).setCell ⟨gb225, 1, none⟩ (.slice Ao31 t243.length co31))) ?hg ?ho ?hn ?hr ?_; (case ho => rfl); (case hg => rfl); (case hn => rfl); (case hr => first | (go_simp; done) | (go_simp; rfl)); intro w32 hw; have n0_ : Aside0 (Kd.R k40 40 w32 w.heap.size (fun k_ => some k_ ≠ (.slice Ao31 t243.length co31 : Value).ownBlock) (.slice Ao28 x226001_1.length co28) x226001_1) := ⟨(by rw [hw]; exact (by exact Kd.R_mono (Kd.R_farN HO_226001.out BK225.out) (fun _ hk => hk.2)))⟩; have n1_ : Aside0 (Kd.R k40 40 w32 w.heap.size (fun k_ => some k_ ≠ (.slice Ao28 x226001_1.length co28 : Value).ownBlock) (.slice Ao31 t243.length co31) t243) := ⟨(by rw [hw]; exact (by exact Kd.R_mono (Kd.R_farN HO245.out BK225.out) (fun _ hk => hk.2)))⟩; have n2_ : Aside0 (w32.heap[gb216]? = some (.cells #[.int .i64 0, .slice none 0 0] 28 (0, 0))) := ⟨(by rw [hw]; exact (by exact blk_kb BK216.out NB216_225.out))⟩; have n3_ : Aside0 (w32.heap[gb225]? = some (.cells #[.int .i64 t242, .slice Ao31 t243.length co31] 28 (0, 0))) := ⟨(by rw [hw]; exact (by (with_reducible repeat (first | refine blk_drewN ?_ _ | refine blk_drew ?_ | refine blk_alloc ?_ _)); exact blk_fill2 BK225.out))⟩; have n4_ : Aside0 (IsS62 w0 w32 g s0_0 t240 t241) := ⟨(by rw [hw]; exact (by repeat (first | (with_reducible first | exact HI0.out | apply IsS62.alloc | apply IsS62.drewN | apply IsS62.drew | apply IsS62.set_1 | apply IsS62.set_2 | refine IsS62.far ?_ NB0_216.out _ | refine IsS62.far ?_ NB0_225.out _) | exact HI0.out)))⟩; have n5_ : Aside0 (KeepBut w w32 g none) := ⟨(by rw [hw]; exact (by repeat (first | (with_reducible first | exact HK.out | apply KeepBut.set_ | apply keep_drewN | apply keep_drew | apply keep_alloc | refine keep_far ?_ GW216.out _ | refine keep_far ?_ GW225.out _) | exact HK.out)))⟩; have n6_ : Aside0 (Below w0.heap.size w0 w32) := ⟨(by rw [hw]; exact (by repeat (first | (with_reducible first | exact HB.out | apply below_alloc | apply pw_below_drewN | apply below_drew1 | refine below_set ?_ (IsS62.ge HI0.out) | refine below_set ?_ GE216.out | refine below_set ?_ GE225.out) | exact HB.out)))⟩; clear hw; clear HO_226001; clear HO245; clear BK216; clear BK225; clear HI0; clear HK; clear HB; have HO_226001 := n0_; have HO245 := n1_; have BK216 := n2_; have BK225 := n3_; have HI0 := n4_; have HK := n5_; have HB := n6_; clear n0_ n1_ n2_ n3_ n4_ n5_ n6_; obtain ⟨hcz33_0, hcz33_1⟩ := blkz2 BK225.out; have hfz33_0 := blkf BK225.out; have hnb34 := NB216_0.out; have hnc34 := NB0_216.out; obtain ⟨hcz35_0, hcz35_1⟩ := blkz2 BK216.out; have hfz35_0 := blkf BK216.out) | ((with_reducible refine gate_store (t := 28) (p := 2) rfl ?_); refine store_event (t := 28) (p := 2) (v := ?vo_w36) (w1 := ((w32.setCell ⟨gb216, 0, none⟩ (.int .i64 t242)).setCell ⟨gb216, 1, none⟩ (.slice Ao31 t243.length co31))) ?hg ?ho ?hn ?hr ?_; (case ho => rfl); (case hg => rfl); (case hn => rfl); (case hr => first | (go_simp; done) | (go_simp; rfl)); intro w36 hw; have n0_ : Aside0 (Kd.R k40 40 w36 w.heap.size (fun k_ => some k_ ≠ (.slice Ao31 t243.length co31 : Value).ownBlock) (.slice Ao28 x226001_1.length co28) x226001_1) := ⟨(by rw [hw]; exact (by exact (Kd.R_farN HO_226001.out BK216.out)))⟩; have n1_ : Aside0 (Kd.R k40 40 w36 w.heap.size (fun k_ => some k_ ≠ (.slice Ao28 x226001_1.length co28 : Value).ownBlock) (.slice Ao31 t243.length co31) t243) := ⟨(by rw [hw]; exact (by exact (Kd.R_farN HO245.out BK216.out)))⟩; have n2_ : Aside0 (w36.heap[gb216]? = some (.cells #[.int .i64 t242, .slice Ao31 t243.length co31] 28 (0, 0))) := ⟨(by rw [hw]; exact (by (with_reducible repeat (first | refine blk_drewN ?_ _ | refine blk_drew ?_ | refine blk_alloc ?_ _)); exact blk_fill2 BK216.out))⟩; have n3_ : Aside0 (w36.heap[gb225]? = some (.cells #[.int .i64 t242, .slice Ao31 t243.length co31] 28 (0, 0))) := ⟨(by rw [hw]; exact (by exact blk_kb BK225.out NB225_216.out))⟩; have n4_ : Aside0 (IsS62 w0 w36 g s0_0 t240 t241) := ⟨(by rw [hw]; exact (by repeat (first | (with_reducible first | exact HI0.out | apply IsS62.alloc | apply IsS62.drewN | apply IsS62.drew | apply IsS62.set_1 | apply IsS62.set_2 | refine IsS62.far ?_ NB0_216.out _ | refine IsS62.far ?_ NB0_225.out _) | exact HI0.out)))⟩; have n5_ : Aside0 (KeepBut w w36 g none) := ⟨(by rw [hw]; exact (by repeat (first | (with_reducible first | exact HK.out | apply KeepBut.set_ | apply keep_drewN | apply keep_drew | apply keep_alloc | refine keep_far ?_ GW216.out _ | refine keep_far ?_ GW225.out _) | exact HK.out)))⟩; have n6_ : Aside0 (Below w0.heap.size w0 w36) := ⟨(by rw [hw]; exact (by repeat (first | (with_reducible first | exact HB.out | apply below_alloc | apply pw_below_drewN | apply below_drew1 | refine below_set ?_ (IsS62.ge HI0.out) | refine below_set ?_ GE216.out | refine below_set ?_ GE225.out) | exact HB.out)))⟩; clear hw; clear HO_226001; clear HO245; clear BK216; clear BK225; clear HI0; clear HK; clear HB; have HO_226001 := n0_; have HO245 := n1_; have BK216 := n2_; have BK225 := n3_; have HI0 := n4_; have HK := n5_; have HB := n6_; clear n0_ n1_ n2_ n3_ n4_ n5_ n6_))
     refine bodyPost_ret (results_cell_row rfl _ _ gb216 28 #[.int .i64 t242, .slice Ao31 t243.length co31] (0, 0) _ rfl (by exact blk_nw BK216.out) Try.underlying28 rfl (by kernel_rfl)) rfl ?_
     exact ⟨_, by first | rfl | (simp [errW_none, errW_some] <;> rfl) | (simp [*, errW_none, errW_some] <;> rfl), by exact Kd.R_nw (Kd.R_mono HO245.out (fun _ hk => trivial)), by repeat (first | (with_reducible first | exact HI0.out | apply IsS62.alloc | apply IsS62.drewN | apply IsS62.drew | apply IsS62.set_1 | apply IsS62.set_2 | refine IsS62.far ?_ NB0_216.out _ | refine IsS62.far ?_ NB0_225.out _) | exact HI0.out), by repeat (first | (with_reducible first | exact HB.out | apply below_alloc | apply pw_below_drewN | apply below_drew1 | refine below_set ?_ (IsS62.ge HI0.out) | refine below_set ?_ GE216.out | refine below_set ?_ GE225.out) | exact HB.out), by repeat (first | (with_reducible first | exact HK.out | apply KeepBut.set_ | apply keep_drewN | apply keep_drew | apply keep_alloc | refine keep_far ?_ GW216.out _ | refine keep_far ?_ GW225.out _) | exact HK.out)⟩
    ·replace c23 := Bool.eq_false_iff.mpr c23
     subst c23
     rw [if_neg (show ¬ (false = true) by decide)] at H
     simp only [Option.some.injEq, Prod.mk.injEq] at H; obtain ⟨rfl, rfl, rfl, rfl⟩ := H; have hnb37 := NB225_216.out; have hnc37 := NB216_225.out; have hnb38 := NB225_0.out; have hnc38 := NB0_225.out; obtain ⟨hcz39_0, hcz39_1⟩ := blkz2 BK225.out; have hfz39_0 := blkf BK225.out; have hnb40 := NB216_0.out; have hnc40 := NB0_216.out; obtain ⟨hcz41_0, hcz41_1⟩ := blkz2 BK216.out; have hfz41_0 := blkf BK216.out
     obtain ⟨Ao42, co42, eo42⟩ := Kd.R_slice HO_226001.out
     subst eo42
     go_wp2_with (first | ((with_reducible refine gate_store (t := 28) (p := 2) rfl ?_); refine store_event (t := 28) (p := 2) (v := ?vo_w43) (w1 := ((w22.setCell ⟨gb216, 0, none⟩ (.int .i64 x226000_1)).setCell ⟨gb216, 1, none⟩ (.slice Ao42 x226001_1.length co42))) ?hg ?ho ?hn ?hr ?_; (case ho => rfl); (case hg => rfl); (case hn => rfl); (case hr => first | (go_simp; done) | (go_simp; rfl)); intro w43 hw; have n0_ : Aside0 (Kd.R k40 40 w43 w.heap.size (fun _ => True) (.slice Ao42 x226001_1.length co42) x226001_1) := ⟨(by rw [hw]; exact (by exact (Kd.R_farN HO_226001.out BK216.out)))⟩; have n1_ : Aside0 (w43.heap[gb216]? = some (.cells #[.int .i64 x226000_1, .slice Ao42 x226001_1.length co42] 28 (0, 0))) := ⟨(by rw [hw]; exact (by (with_reducible repeat (first | refine blk_drewN ?_ _ | refine blk_drew ?_ | refine blk_alloc ?_ _)); exact blk_fill2 BK216.out))⟩; have n2_ : Aside0 (w43.heap[gb225]? = some (.cells #[.int .i64 x226000_1, .slice Ao42 x226001_1.length co42] 28 (0, 0))) := ⟨(by rw [hw]; exact (by exact blk_kb BK225.out NB225_216.out))⟩; have n3_ : Aside0 (IsS62 w0 w43 g s0_0 t240 t241) := ⟨(by rw [hw]; exact (by repeat (first | (with_reducible first | exact HI0.out | apply IsS62.alloc | apply IsS62.drewN | apply IsS62.drew | apply IsS62.set_1 | apply IsS62.set_2 | refine IsS62.far ?_ NB0_216.out _ | refine IsS62.far ?_ NB0_225.out _) | exact HI0.out)))⟩; have n4_ : Aside0 (KeepBut w w43 g none) := ⟨(by rw [hw]; exact (by repeat (first | (with_reducible first | exact HK.out | apply KeepBut.set_ | apply keep_drewN | apply keep_drew | apply keep_alloc | refine keep_far ?_ GW216.out _ | refine keep_far ?_ GW225.out _) | exact HK.out)))⟩; have n5_ : Aside0 (Below w0.heap.size w0 w43) := ⟨(by rw [hw]; exact (by repeat (first | (with_reducible first | exact HB.out | apply below_alloc | apply pw_below_drewN | apply below_drew1 | refine below_set ?_ (IsS62.ge HI0.out) | refine below_set ?_ GE216.out | refine below_set ?_ GE225.out) | exact HB.out)))⟩; clear hw; clear HO_226001; clear BK216; clear BK225; clear HI0; clear HK; clear HB; have HO_226001 := n0_; have BK216 := n1_; have BK225 := n2_; have HI0 := n3_; have HK := n4_; have HB := n5_; clear n0_ n1_ n2_ n3_ n4_ n5_))
     refine bodyPost_ret (results_cell_row rfl _ _ gb216 28 #[.int .i64 x226000_1, .slice Ao42 x226001_1.length co42] (0, 0) _ rfl (by exact blk_nw BK216.out) Try.underlying28 rfl (by kernel_rfl)) rfl ?_
     exact ⟨_, by first | rfl | (simp [errW_none, errW_some] <;> rfl) | (simp [*, errW_none, errW_some] <;> rfl), by exact Kd.R_nw HO_226001.out, by repeat (first | (with_reducible first | exact HI0.out | apply IsS62.alloc | apply IsS62.drewN | apply IsS62.drew | apply IsS62.set_1 | apply IsS62.set_2 | refine IsS62.far ?_ NB0_216.out _ | refine IsS62.far ?_ NB0_225.out _) | exact HI0.out), by repeat (first | (with_reducible first | exact HB.out | apply below_alloc | apply pw_below_drewN | apply below_drew1 | refine below_set ?_ (IsS62.ge HI0.out) | refine below_set ?_ GE216.out | refine below_set ?_ GE225.out) | exact HB.out), by repeat (first | (with_reducible first | exact HK.out | apply KeepBut.set_ | apply keep_drewN | apply keep_drew | apply keep_alloc | refine keep_far ?_ GW216.out _ | refine keep_far ?_ GW225.out _) | exact HK.out)⟩

/-! ### spec_l1PickInt: function 35 -/
def spec_l1PickInt.f (s0_0 : List Int) (s0_1 : Int) (s0_2 : Int) (l1 : List Int) : Option (Int × Int × Int) := (spec_l1Below.f s0_0 s0_1 s0_2 (l1.length : Int)).bind fun bt247 => (if 0 ≤ bt247.1 then (if bt247.1 < (l1.length : Int) then (some (rd l1 bt247.1, bt247.2.1, bt247.2.2)) else (none)) else (none))
set_option maxHeartbeats 8000000 in
set_option maxRecDepth 100000 in
theorem spec_l1PickInt.calls (g : Nat) (s0_0 : List Int) (s0_1 : Int) (s0_2 : Int) (A1 : Option Addr) (c1 : Nat) (l1 : List Int) (r1 : Int) (r2 : Int) (r3 : Int) (w0 w : World) (hI : IsS62 w0 w g s0_0 s0_1 s0_2) (hB : Below w0.heap.size w0 w) (hr1 : Kd.C (Kd.int .i64) w A1 l1.length l1) (hc1 : l1.length ≤ c1) (hf1 : ∀ ad, A1 = some ad → 0 < l1.length → ad.block ≠ g) (h : spec_l1PickInt.f s0_0 s0_1 s0_2 l1 = some (r1, r2, r3)) :
  Calls Try.prog 35 #[.pointer (some ⟨g, 0, none⟩), .slice A1 l1.length c1] w fun e w' => e = .returned (.int .i64 r1) ∧ IsS62 w0 w' g s0_0 r2 r3 ∧ Below w0.heap.size w0 w' ∧ KeepBut w w' g none := by
 have HR1 := Aside0.mk hr1; have HC1 := Aside0.mk hc1; clear hr1 hc1; have HI0 := Aside0.mk hI
 have HK := Aside0.mk (KeepBut.refl w g none)
 have HL := Aside0.mk hB.size
 clear hI
 have HW0 := Aside0.mk hB.size
 have HB := Aside0.mk hB; clear hB
 have H : ((spec_l1Below.f s0_0 s0_1 s0_2 (l1.length : Int)).bind fun bt247 => (if 0 ≤ bt247.1 then (if bt247.1 < (l1.length : Int) then (some (rd l1 bt247.1, bt247.2.1, bt247.2.2)) else (none)) else (none))) = some (r1, r2, r3) := h
 clear h; replace H := Option.bind_eq_some_iff.mp H
 obtain ⟨⟨t247, t248, t249⟩, A30, H⟩ := H
 replace H : (if 0 ≤ t247 then (if t247 < (l1.length : Int) then (some (rd l1 t247, t248, t249)) else (none)) else (none)) = some (r1, r2, r3) := H
 have A3 := Aside0.mk A30; clear A30; go_enter Try.func35, Try.ntmps35
 replace H := Aside0.mk H
 go_wp2_with (first | ((with_reducible refine gate_callee (f := 34) rfl ?_); refine goesL_ (some 9) rfl rfl Try.func34 (by kernel_rfl) rfl #[.pointer (some ⟨g, 0, none⟩), .int .i64 (l1.length : Int)] rfl (by (try simp only [List.map_toArray, List.map_cons, List.map_nil]); first | done | rfl | (simp only [List.length_drop, List.length_take]; rfl)) ?_; (with_reducible refine (spec_l1Below.calls g s0_0 s0_1 s0_2 (l1.length : Int) t247 t248 t249 w0 _ ?side1 ?side2 A3.out).mono ?_); (case side1 => repeat (first | (with_reducible first | exact HI0.out | apply IsS62.alloc | apply IsS62.drewN | apply IsS62.drew | apply IsS62.set_1 | apply IsS62.set_2) | exact HI0.out)); (case side2 => repeat (first | (with_reducible first | exact HB.out | apply below_alloc | apply pw_below_drewN | apply below_drew1 | refine below_set ?_ (IsS62.ge HI0.out)) | exact HB.out)); rintro e w4 ⟨rfl, hi, hb, hk⟩; refine ⟨_, rfl, ?_⟩; have n_ := an (KeepBut.trans (by repeat (first | (with_reducible first | exact HK.out | apply KeepBut.set_ | apply keep_drewN | apply keep_drew | apply keep_alloc) | exact HK.out)) hk (.inl rfl)) (an (hb) (an (hi) (trivial))); clear HK HB HI0; obtain ⟨HK, HB, HI0, -⟩ := n_; (try clear hb); (try clear hb2); (try clear hk); (try clear hi); refine Stop.out ?_))
 refine Stop.mk ?_
 replace H := H.out
 by_cases c5 : 0 ≤ t247
 ·rw [if_pos c5] at H; have c5b0 : decide (0 ≤ t247) = true := decide_eq_true c5; clear c5; (try simp only [c5b0])
  by_cases c6 : t247 < (l1.length : Int)
  ·rw [if_pos c6] at H
   have c6b0 : decide (t247 < (l1.length : Int)) = true := decide_eq_true c6
   clear c6; (try simp only [c6b0]); simp only [Option.some.injEq, Prod.mk.injEq] at H; obtain ⟨rfl, rfl, rfl⟩ := H
   have p250 : 0 ≤ (t247 : Int) := of_decide_eq_true (by first | (with_reducible assumption) | assumption)
   have q250 : t247 < (l1.length : Int) := of_decide_eq_true (by first | (with_reducible assumption) | assumption)
   obtain ⟨ad250, e250, hx250_0⟩ := Kd.at_int HR1.out t247 p250 q250
   cases e250
   replace hx250_0 := keep_cell HK.out hx250_0 (by first | (rw [add_block]; exact hf1 _ rfl (by omega)) | exact hf1 _ rfl (by omega) | exact hf1 ad250 rfl (by omega))
   replace p250 := eq_true p250
   replace q250 := eq_true q250
   go_wp2
   go_ret
   exact ⟨by first | rfl | (simp [errW_none, errW_some] <;> rfl) | (simp [*, errW_none, errW_some] <;> rfl), by repeat (first | (with_reducible first | exact HI0.out | apply IsS62.alloc | apply IsS62.drewN | apply IsS62.drew | apply IsS62.set_1 | apply IsS62.set_2) | exact HI0.out), by repeat (first | (with_reducible first | exact HB.out | apply below_alloc | apply pw_below_drewN | apply below_drew1 | refine below_set ?_ (IsS62.ge HI0.out)) | exact HB.out), by repeat (first | (with_reducible first | exact HK.out | apply KeepBut.set_ | apply keep_drewN | apply keep_drew | apply keep_alloc) | exact HK.out)⟩
  ·rw [if_neg c6] at H
   exact absurd H (by simp)
 ·rw [if_neg c5] at H
  exact absurd H (by simp)

end Go.Proofs.Ytpoedoefbeabkaa.XFnRounds
