-- Written by this session's own program (xprint.py) over the kit's print.
import Derived.Test.YtpoedoefbeabkaaXFnRoundsx0
import Derived.Test.YtpoedoefbeabkaaXFnRoundsx10
namespace Go.Proofs.Ytpoedoefbeabkaa.XFnRounds
open Go.RowKit Go.Proofs.YtpoedoefbeabkaaW.PrintWords Go.Proofs.YtpoedoefbeabkaaW.PrintLast Go.Proofs.YtpoedoefbeabkaaW.PrintMore
attribute [local go_sem] max2_int min2_int max_two min_two max_three min_three max_four min_four   -- for this text's walks alone
set_option linter.unusedVariables false
set_option linter.unusedSimpArgs false

/-! ### impl_TableOk: function 27 -/
def impl_TableOk.l0 : Nat → List (S40) → Int → Int → Int → List (S40) → Option (Bool)
  | 0, _, _, _, _, _ => none
  | k + 1, x12, x13, x14, x458000, x458001 => if x14 < x13 then (if 0 ≤ x14 then (if x14 < (x12.length : Int) then ((impl_MemberOk.f ((rd_T40 x12 x14).f0) ((rd_T40 x12 x14).f1) ((rd_T40 x12 x14).f2)).bind fun t460 => (if t460 = true then (if x14 > 0 then (if 0 ≤ (wrap64 (x14 - 1)) then (if (wrap64 (x14 - 1)) < (x458001.length : Int) then (if ((rd_T40 x458001 (wrap64 (x14 - 1))).f0) ≥ ((rd_T40 x12 x14).f0) then (some false) else (impl_TableOk.l0 k x12 x13 (wrap64 (x14 + 1)) x458000 x458001)) else (none)) else (none)) else (impl_TableOk.l0 k x12 x13 (wrap64 (x14 + 1)) x458000 x458001)) else (some false))) else (none)) else (none)) else ((impl_Table_member.f k x458000 x458001 x458000).bind fun bt462 => (if bt462.2 = true then (if 0 ≤ bt462.1 then (if bt462.1 < (x458001.length : Int) then (if ((rd_T40 x458001 bt462.1).f1) = 0 then (some true) else (if ((rd_T40 x458001 bt462.1).f1) = 3 then (some true) else (some (((rd_T40 x458001 bt462.1).f2) == 1000)))) else (none)) else (none)) else (some false)))
def impl_TableOk.f (k : Nat) (a0_0 : Int) (l0_1 : List (S40)) : Option (Bool) := if (l0_1.length : Int) > 12 then (some false) else (impl_TableOk.l0 k l0_1 (l0_1.length : Int) 0 a0_0 l0_1)
theorem impl_TableOk.mono_l : ∀ k, (∀ y0 y1 y2 y3 y4, LeO (impl_TableOk.l0 k y0 y1 y2 y3 y4) (impl_TableOk.l0 (k + 1) y0 y1 y2 y3 y4))
 | 0 => fun _ _ _ _ _ r h => by simp [impl_TableOk.l0] at h
 | k + 1 => by
  have ih0 := impl_TableOk.mono_l k
  ·intro y0 y1 y2 y3 y4
   unfold impl_TableOk.l0
   repeat' first
   | (with_reducible exact ih0 _ _ _ _ _)
   | (with_reducible exact impl_Table_member.mono _ _ _ _)
   | (with_reducible exact LeO.refl _)
   | (with_reducible exact LeO.none _)
   | (with_reducible refine LeO.ite ?_ ?_)
   | (with_reducible refine LeO.bind ?_ (fun _ => ?_))
   | exact ih0 _ _ _ _ _
   | exact impl_Table_member.mono _ _ _ _
   | exact LeO.none _
   | refine LeO.ite ?_ ?_
   | refine LeO.bind ?_ (fun _ => ?_)
theorem impl_TableOk.mono : ∀ a0 a1 k, LeO (impl_TableOk.f k a0 a1) (impl_TableOk.f (k + 1) a0 a1) := by
 intro a0 a1 k
 have ih0 := impl_TableOk.mono_l k
 unfold impl_TableOk.f
 repeat' first
   | (with_reducible exact ih0 _ _ _ _ _)
   | (with_reducible exact impl_Table_member.mono _ _ _ _)
   | (with_reducible exact LeO.refl _)
   | (with_reducible exact LeO.none _)
   | (with_reducible refine LeO.ite ?_ ?_)
   | (with_reducible refine LeO.bind ?_ (fun _ => ?_))
   | exact ih0 _ _ _ _ _
   | exact impl_Table_member.mono _ _ _ _
   | exact LeO.none _
   | refine LeO.ite ?_ ?_
   | refine LeO.bind ?_ (fun _ => ?_)
def impl_TableOk.T6 : Bool × List (List Nat × List Nat) := (true, [([], []), ([0], [0]), ([1], [1]), ([2, 1], [2]), ([3], [3]), ([4, 3], [3, 4]), ([5, 3, 3], [3, 5]), ([6], [6]), ([7, 6], [6, 7]), ([6], [6]), ([9, 6], [6, 9]), ([8, 10, 6], [6, 8, 10]), ([11, 6], [6, 11]), ([12, 6], [6, 12]), ([6], [6]), ([14, 6], [6, 14]), ([13, 15, 6], [6, 13, 15]), ([6, 16, 3], [3, 6, 16]), ([3, 17], [3, 17])])
def impl_TableOk.B6 : List Nat := [0, 1, 3, 7, 15, 31, 63, 127, 255, 127, 639, 2047, 4095, 8191, 127, 16511, 65535, 131071, 262143]
theorem impl_TableOk.tab6 : rtab .any (opsOf Try.f27 6) = impl_TableOk.T6 := by kernel_rfl
theorem impl_TableOk.bits6 : waitsOk impl_TableOk.T6.2 impl_TableOk.B6 = true := by kernel_rfl
set_option maxHeartbeats 8000000 in
set_option maxRecDepth 100000 in
theorem impl_TableOk.calls (k : Nat) (a0_0 : Int) (A0_1 : Option Addr) (c0_1 : Nat) (l0_1 : List (S40)) (r : Bool) (w : World) (hr0_1 : Kd.C k40 w A0_1 l0_1.length l0_1) (hc0_1 : l0_1.length ≤ c0_1) (h : impl_TableOk.f k a0_0 l0_1 = some r) :
  Calls Try.prog 27 #[.agg #[.int .i64 a0_0, .slice A0_1 l0_1.length c0_1]] w fun e w' => e = .returned (.bool r) ∧ Below w.heap.size w w' := by
 have hu28 := Try.underlying28
 have hu40 := Try.underlying40
 have HR0_1 := Aside0.mk hr0_1; have HC0_1 := Aside0.mk hc0_1; clear hr0_1 hc0_1
 have HB := Aside0.mk (Below.refl w.heap.size w)
 have H : (if (l0_1.length : Int) > 12 then (some false) else (impl_TableOk.l0 k l0_1 (l0_1.length : Int) 0 a0_0 l0_1)) = some r := h
 clear h; go_enter Try.func27, Try.ntmps27
 replace H := Aside0.mk H
 go_wp2_with (first | ((with_reducible refine gate_dst (N := 1) rfl ?_); refine box_event ?hg (N := 1) ?hd (cs := #[.int .i64 a0_0, .slice A0_1 l0_1.length c0_1]) (t := 28) ?hr ?_; (case hd => rfl); (case hg => rfl); (case hr => first | (go_simp; done) | (go_simp; rfl)); intro gb457 hg w2 hbox hb; have n_ := an (below_step (by exact bel0) hb) (an (hbox) (an ((by rw [hg]; exact (below_size (by exact bel0)) : w.heap.size ≤ gb457)) (an ((by rw [hg]; exact (below_size (by exact bel0)) : w.heap.size ≤ gb457)) (trivial)))); clear HB; obtain ⟨HB, BK457, GW457, GE457, -⟩ := n_; clear hb hbox hg; obtain ⟨hcz3_0, hcz3_1⟩ := blkz2 BK457.out; have hfz3_0 := blkf BK457.out; refine Stop.out ?_))
 refine Stop.mk ?_
 replace H := H.out
 by_cases c4 : (l0_1.length : Int) > 12
 ·rw [if_pos c4] at H
  have c4b0 : decide (12 < (l0_1.length : Int)) = true := decide_eq_true c4
  have c4b1 : decide (12 < l0_1.length) = true := decide_eq_true (by omega)
  clear c4; (try simp only [c4b0])
  obtain rfl := Option.some.inj H
  go_wp2
  go_ret
  exact ⟨by first | rfl | (simp [errW_none, errW_some] <;> rfl) | (simp [*, errW_none, errW_some] <;> rfl), by exact bel0⟩
 ·rw [if_neg c4] at H
  have c4b0 : decide (12 < (l0_1.length : Int)) = false := decide_eq_false c4
  have c4b1 : decide (12 < l0_1.length) = false := decide_eq_false (by omega)
  clear c4; (try simp only [c4b0])
  have H' := Aside0.mk H
  clear H; obtain ⟨hcz5_0, hcz5_1⟩ := blkz2 BK457.out; have hfz5_0 := blkf BK457.out
  go_wp2
  go_loopg [14] k (fun kq v14 w' => ∃ (x14_1 : Int), v14 = .int .i64 x14_1 ∧ Aside0 (impl_TableOk.l0 kq l0_1 (l0_1.length : Int) x14_1 a0_0 l0_1 = some r) ∧ Aside0 (kq ≤ k) ∧ Aside0 (w'.heap[gb457]? = some (.cells #[.int .i64 a0_0, (.slice A0_1 l0_1.length c0_1)] 28 (0, 0))) ∧ Aside0 (Below w.heap.size w w'))
  case atStart => exact ⟨(0), (by first | rfl | (simp; done) | (simp [*]; done)), H', ⟨Nat.le_refl _⟩, ⟨by exact blk_nw BK457.out⟩, ⟨by exact bel0⟩⟩
  case round =>
   clear H'
   try clear c2; try clear p2; try clear c4; try clear c4b0; try clear c4b1; try clear hcz3_0; try clear hcz3_1; try clear hcz5_0; try clear hcz5_1; try clear hfz3_0; try clear hfz3_1; try clear hfz5_0; try clear hfz5_1
   obtain ⟨x14_1, rfl, HA, HK1, BK457, HB⟩ := hrel
   cases gk with
   | zero => exact absurd HA.out (by simp [impl_TableOk.l0])
   | succ k1 =>
    have H := HA.out; clear HA
    simp only [impl_TableOk.l0] at H
    by_cases c6 : x14_1 < (l0_1.length : Int)
    ·rw [if_pos c6] at H
     have c6b0 : decide (x14_1 < (l0_1.length : Int)) = true := decide_eq_true c6
     clear c6; (try simp only [c6b0])
     by_cases c7 : 0 ≤ x14_1
     ·rw [if_pos c7] at H; have c7b0 : decide (0 ≤ x14_1) = true := decide_eq_true c7; clear c7; (try simp only [c7b0])
      by_cases c8 : x14_1 < (l0_1.length : Int)
      ·rw [if_pos c8] at H
       have c8b0 : decide (x14_1 < (l0_1.length : Int)) = true := decide_eq_true c8
       clear c8; (try simp only [c8b0]); replace H := Option.bind_eq_some_iff.mp H; obtain ⟨t460, A90, H⟩ := H; have A9 := Aside0.mk A90; clear A90
       by_cases c10 : t460 = true
       ·subst c10; rw [if_pos rfl] at H
        by_cases c11 : x14_1 > 0
        ·rw [if_pos c11] at H; have c11b0 : decide (0 < x14_1) = true := decide_eq_true c11; clear c11; (try simp only [c11b0])
         obtain ⟨ji12, hji12⟩ : ∃ j_ : Int, (wrap64 (x14_1 - 1)) = j_ := ⟨_, rfl⟩
         replace H : (if 0 ≤ (ji12) then (if (ji12) < (l0_1.length : Int) then (if ((rd_T40 l0_1 (ji12)).f0) ≥ ((rd_T40 l0_1 x14_1).f0) then (some false) else (impl_TableOk.l0 k1 l0_1 (l0_1.length : Int) (wrap64 (x14_1 + 1)) a0_0 l0_1)) else (none)) else (none)) = some r := by first | (rw [hji12] at H; exact H) | (simp only [hji12] at H ⊢; exact H)
         (try rw [hji12] at A9)
         have hji12w : (IntKind.i64.wrap (x14_1 - 1)) = ji12 := (i64_w _).trans hji12
         by_cases c13 : 0 ≤ (ji12)
         ·rw [if_pos c13] at H; have c13b0 : decide (0 ≤ (ji12)) = true := decide_eq_true c13; clear c13; (try simp only [c13b0])
          by_cases c14 : (ji12) < (l0_1.length : Int)
          ·rw [if_pos c14] at H
           have c14b0 : decide ((ji12) < (l0_1.length : Int)) = true := decide_eq_true c14
           clear c14; (try simp only [c14b0])
           have p458 : 0 ≤ (x14_1 : Int) := of_decide_eq_true (by first | (with_reducible assumption) | assumption)
           have q458 : x14_1 < (l0_1.length : Int) := of_decide_eq_true (by first | (with_reducible assumption) | assumption)
           obtain ⟨ad458, e458, hx458_0, hx458_1, hx458_2⟩ := at_T40 HR0_1.out x14_1 p458 q458
           cases e458
           replace hx458_0 := (HB.out.cell (World.block_lt_of_cell? w _ hx458_0)).trans hx458_0
           replace hx458_1 := (HB.out.cell (World.block_lt_of_cell? w _ hx458_1)).trans hx458_1
           replace hx458_2 := (HB.out.cell (World.block_lt_of_cell? w _ hx458_2)).trans hx458_2
           replace p458 := eq_true p458
           replace q458 := eq_true q458
           replace H := Aside0.mk H
           try go_wp2_with (first | ((with_reducible refine gate_dst (N := 4) rfl ?_); refine box_event ?hg (N := 4) ?hd (cs := #[.int .i64 0, .int .i64 0, .int .i64 0]) (t := 40) ?hr ?_; (case hd => rfl); (case hg => rfl); (case hr => first | (go_simp; done) | (go_simp; rfl)); intro gb459 hg w15 hbox hb; have n_ := an (blk_below (blk_nw BK457.out) hb) (an (below_step (by exact bel0) hb) (an (hbox) (an ((by rw [hg]; exact (below_size (by exact bel0)) : w.heap.size ≤ gb459)) (an ((by rw [hg]; exact (below_size (by exact bel0)) : w.heap.size ≤ gb459)) (an ((by rw [hg]; exact Nat.ne_of_lt (blk_lt (blk_nw BK457.out)) : gb457 ≠ gb459)) (an ((by rw [hg]; exact Nat.ne_of_gt (blk_lt (blk_nw BK457.out)) : gb459 ≠ gb457)) (trivial))))))); clear BK457 HB; obtain ⟨BK457, HB, BK459, GW459, GE459, NB457_459, NB459_457, -⟩ := n_; clear hb hbox hg; have hnb16 := NB459_457.out; have hnc16 := NB457_459.out; obtain ⟨hcz17_0, hcz17_1, hcz17_2⟩ := blkz3 BK459.out; have hfz17_0 := blkf BK459.out))
           have n0_ : Aside0 ((((w15.setCell ⟨gb459, 0, none⟩ (.int .i64 ((rd_T40 l0_1 x14_1).f0))).setCell ⟨gb459, 1, none⟩ (.int .i64 ((rd_T40 l0_1 x14_1).f1))).setCell ⟨gb459, 2, none⟩ (.int .i64 ((rd_T40 l0_1 x14_1).f2))).heap[gb457]? = some (.cells #[.int .i64 a0_0, .slice (some ad458) l0_1.length c0_1] 28 (0, 0))) := ⟨by exact blk_kb BK457.out NB457_459.out⟩
           have n1_ : Aside0 ((((w15.setCell ⟨gb459, 0, none⟩ (.int .i64 ((rd_T40 l0_1 x14_1).f0))).setCell ⟨gb459, 1, none⟩ (.int .i64 ((rd_T40 l0_1 x14_1).f1))).setCell ⟨gb459, 2, none⟩ (.int .i64 ((rd_T40 l0_1 x14_1).f2))).heap[gb459]? = some (.cells #[.int .i64 ((rd_T40 l0_1 x14_1).f0), .int .i64 ((rd_T40 l0_1 x14_1).f1), .int .i64 ((rd_T40 l0_1 x14_1).f2)] 40 (0, 0))) := ⟨by (with_reducible repeat (first | refine blk_drewN ?_ _ | refine blk_drew ?_ | refine blk_alloc ?_ _)); exact blk_fill3 BK459.out⟩
           have n2_ : Aside0 (Below w.heap.size w (((w15.setCell ⟨gb459, 0, none⟩ (.int .i64 ((rd_T40 l0_1 x14_1).f0))).setCell ⟨gb459, 1, none⟩ (.int .i64 ((rd_T40 l0_1 x14_1).f1))).setCell ⟨gb459, 2, none⟩ (.int .i64 ((rd_T40 l0_1 x14_1).f2)))) := ⟨by exact bel0⟩
           (try clear BK457); (try clear BK459); (try clear HB)
           generalize (((w15.setCell ⟨gb459, 0, none⟩ (.int .i64 ((rd_T40 l0_1 x14_1).f0))).setCell ⟨gb459, 1, none⟩ (.int .i64 ((rd_T40 l0_1 x14_1).f1))).setCell ⟨gb459, 2, none⟩ (.int .i64 ((rd_T40 l0_1 x14_1).f2))) = w18 at n0_ n1_ n2_ ⊢
           have BK457 := n0_
           have BK459 := n1_
           have HB := n2_
           clear n0_ n1_ n2_
           have n_ := an (blk_drew BK457.out) (an (blk_drew BK459.out) (an (below_drew1 HB.out) (trivial)))
           clear BK457 BK459 HB
           obtain ⟨BK457, BK459, HB, -⟩ := n_
           have p461 : 0 ≤ ((ji12) : Int) := of_decide_eq_true (by first | (with_reducible assumption) | assumption)
           have q461 : (ji12) < (l0_1.length : Int) := of_decide_eq_true (by first | (with_reducible assumption) | assumption)
           obtain ⟨ad461, e461, hx461_0, hx461_1, hx461_2⟩ := at_T40 HR0_1.out (ji12) p461 q461
           have hw461_2 := hx461_2
           have hw461_1 := hx461_1
           have hw461_0 := hx461_0
           obtain rfl : ad458 = ad461 := (by injection e461)
           replace hx461_0 := (HB.out.cell (World.block_lt_of_cell? w _ hx461_0)).trans hx461_0
           replace hx461_1 := (HB.out.cell (World.block_lt_of_cell? w _ hx461_1)).trans hx461_1
           replace hx461_2 := (HB.out.cell (World.block_lt_of_cell? w _ hx461_2)).trans hx461_2
           replace p461 := eq_true p461
           replace q461 := eq_true q461
           refine start_ (n := 19) (S := fun w' => w'.cell? ⟨gb459, 0, none⟩ = some (.int .i64 ((rd_T40 l0_1 x14_1).f0)) ∧ w'.cell? ⟨gb459, 1, none⟩ = some (.int .i64 ((rd_T40 l0_1 x14_1).f1)) ∧ w'.cell? ⟨gb459, 2, none⟩ = some (.int .i64 ((rd_T40 l0_1 x14_1).f2)) ∧ w'.cell? ⟨gb457, 0, none⟩ = some (.int .i64 a0_0) ∧ w'.cell? ⟨gb457, 1, none⟩ = some (.slice (some ad458) l0_1.length c0_1) ∧ w'.cell? (ad458.add (((ji12)).toNat * 3)) = some (.int .i64 ((rd_T40 l0_1 (ji12)).f0)) ∧ w'.cell? ⟨(ad458.add (((ji12)).toNat * 3)).block, (ad458.add (((ji12)).toNat * 3)).off + 1, none⟩ = some (.int .i64 ((rd_T40 l0_1 (ji12)).f1)) ∧ w'.cell? ⟨(ad458.add (((ji12)).toNat * 3)).block, (ad458.add (((ji12)).toNat * 3)).off + 2, none⟩ = some (.int .i64 ((rd_T40 l0_1 (ji12)).f2))) (ds := []) #[false, false, false, false, false, false, false, false, false, false, false, false, false, false, false, false, false, false, false] (by kernel_rfl) rfl rfl ⟨(blk_cell BK459.out 0).trans rfl, (blk_cell BK459.out 1).trans rfl, (blk_cell BK459.out 2).trans rfl, (blk_cell BK457.out 0).trans rfl, (blk_cell BK457.out 1).trans rfl, ((HB.out.cell (World.block_lt_of_cell? w _ hw461_0)).trans hw461_0), ((HB.out.cell (World.block_lt_of_cell? w _ hw461_1)).trans hw461_1), ((HB.out.cell (World.block_lt_of_cell? w _ hw461_2)).trans hw461_2)⟩ (fun hHeld => ?_); refine with_tabW impl_TableOk.tab6 impl_TableOk.bits6 (fun HT_ HW_ => ?_)
           generalize w18.drew = w19 at BK457 BK459 HB hx461_0 hx461_1 hx461_2 hHeld ⊢
           refine take_ (i := 0) (N := some 19) (v := ?_) (a' := ?_) #[true, false, false, false, false, false, false, false, false, false, false, false, false, false, false, false, false, false, false] rfl rfl (take_ofW HT_.out HW_.out (by kernel_rfl)) (fun _ _ _ h => h) (Or.inl ⟨by rfl, ?_⟩) hHeld ?_ ?_
           rotate_left
           ·rintro w' ⟨s0, s1, s2, s3, s4, s5, s6, s7⟩
            go_simp
            with_reducible rfl
           rotate_left
           ·simp only [Act.put, List.setIfInBounds_toArray, List.set_cons_zero, List.set_cons_succ, i64_w, i32_w]
            rfl
           refine one_ (i := 1) (N := some 20) #[true, true, false, false, false, false, false, false, false, false, false, false, false, false, false, false, false, false, false] rfl rfl (one_of HT_.out (by kernel_rfl)) (by decide) (fun K hK => ?_)
           refine goes_ Try.func39 (by kernel_rfl) rfl #[.agg #[.int .i64 ((rd_T40 l0_1 x14_1).f0), .int .i64 ((rd_T40 l0_1 x14_1).f1), .int .i64 ((rd_T40 l0_1 x14_1).f2)]] (by rfl) rfl rfl (by (try simp only [List.map_toArray, List.map_cons, List.map_nil]); first | done | rfl | (simp only [List.length_drop, List.length_take]; rfl)) ?_
           with_reducible refine (impl_MemberOk.calls ((rd_T40 l0_1 x14_1).f0) ((rd_T40 l0_1 x14_1).f1) ((rd_T40 l0_1 x14_1).f2) true _ A9.out).mono ?_
           rintro e w20 ⟨rfl, hb⟩
           refine ⟨_, rfl, ?_⟩
           have n_ := an (blk_below (blk_nw BK457.out) hb) (an (blk_below (blk_nw BK459.out) hb) (an (below_step (by exact bel0) hb) (trivial)))
           clear BK457 BK459 HB
           obtain ⟨BK457, BK459, HB, -⟩ := n_
           (try clear hb); (try clear hb2); (try clear hk); (try clear hi)
           refine hK.out _ _ ⟨(blk_cell BK459.out 0).trans rfl, (blk_cell BK459.out 1).trans rfl, (blk_cell BK459.out 2).trans rfl, (blk_cell BK457.out 0).trans rfl, (blk_cell BK457.out 1).trans rfl, ((HB.out.cell (World.block_lt_of_cell? w _ hw461_0)).trans hw461_0), ((HB.out.cell (World.block_lt_of_cell? w _ hw461_1)).trans hw461_1), ((HB.out.cell (World.block_lt_of_cell? w _ hw461_2)).trans hw461_2)⟩ (fun hHeld => ?_)
           clear hK K
           refine norm_ (a' := ?_) ?_ ?_
           rotate_left
           ·show Act.put _ (some 20) _ = _
            simp only [Act.put, List.setIfInBounds_toArray, List.set_cons_zero, List.set_cons_succ, i64_w, i32_w]
            rfl
           refine pure_ (i := 2) (N := some 21) (v := ?_) (a' := ?_) #[true, true, true, false, false, false, false, false, false, false, false, false, false, false, false, false, false, false, false] rfl rfl (any_of HT_.out (by kernel_rfl)) (fun _ _ _ h => h) (Or.inl ⟨by rfl, ?_⟩) ?_ ?_
           rotate_left
           ·intro w'
            go_simp
            with_reducible rfl
           rotate_left
           ·simp only [Act.put, List.setIfInBounds_toArray, List.set_cons_zero, List.set_cons_succ, i64_w, i32_w]
            rfl
           refine pure_ (i := 3) (N := some 22) (v := ?_) (a' := ?_) #[true, true, true, true, false, false, false, false, false, false, false, false, false, false, false, false, false, false, false] rfl rfl (any_of HT_.out (by kernel_rfl)) (fun _ _ _ h => h) (Or.inl ⟨by rfl, ?_⟩) ?_ ?_
           rotate_left
           ·intro w'
            go_simp
            with_reducible rfl
           rotate_left
           ·simp only [Act.put, List.setIfInBounds_toArray, List.set_cons_zero, List.set_cons_succ, i64_w, i32_w]
            rfl
           refine pure_ (i := 4) (N := some 23) (v := ?_) (a' := ?_) #[true, true, true, true, true, false, false, false, false, false, false, false, false, false, false, false, false, false, false] rfl rfl (any_of HT_.out (by kernel_rfl)) (fun _ _ _ h => h) (Or.inl ⟨by rfl, ?_⟩) ?_ ?_
           rotate_left
           ·intro w'
            go_simp
            with_reducible rfl
           rotate_left
           ·simp only [Act.put, List.setIfInBounds_toArray, List.set_cons_zero, List.set_cons_succ, i64_w, i32_w]
            rfl
           refine pure_ (i := 5) (N := some 24) (v := ?_) (a' := ?_) #[true, true, true, true, true, true, false, false, false, false, false, false, false, false, false, false, false, false, false] rfl rfl (any_of HT_.out (by kernel_rfl)) (fun _ _ _ h => h) (Or.inl ⟨by rfl, ?_⟩) ?_ ?_
           rotate_left
           ·intro w'
            go_simp
            with_reducible rfl
           rotate_left
           ·simp only [Act.put, List.setIfInBounds_toArray, List.set_cons_zero, List.set_cons_succ, i64_w, i32_w]
            rfl
           refine pure_ (i := 6) (N := some 25) (v := ?_) (a' := ?_) #[true, true, true, true, true, true, true, false, false, false, false, false, false, false, false, false, false, false, false] rfl rfl (any_of HT_.out (by kernel_rfl)) (fun _ _ _ h => h) (Or.inl ⟨by rfl, ?_⟩) ?_ ?_
           rotate_left
           ·intro w'
            go_simp
            with_reducible rfl
           rotate_left
           ·simp only [Act.put, List.setIfInBounds_toArray, List.set_cons_zero, List.set_cons_succ, i64_w, i32_w]
            rfl
           refine pure_ (i := 7) (N := some 26) (v := ?_) (a' := ?_) #[true, true, true, true, true, true, true, true, false, false, false, false, false, false, false, false, false, false, false] rfl rfl (any_of HT_.out (by kernel_rfl)) (fun _ _ _ h => h) (Or.inl ⟨by rfl, ?_⟩) ?_ ?_
           rotate_left
           ·intro w'
            go_simp
            with_reducible rfl
           rotate_left
           ·simp only [Act.put, List.setIfInBounds_toArray, List.set_cons_zero, List.set_cons_succ, i64_w, i32_w]
            rfl
           refine pure_ (i := 9) (N := some 28) (v := ?_) (a' := ?_) #[true, true, true, true, true, true, true, true, false, true, false, false, false, false, false, false, false, false, false] rfl rfl (any_of HT_.out (by kernel_rfl)) (fun _ _ _ h => h) (Or.inl ⟨by rfl, ?_⟩) ?_ ?_
           rotate_left
           ·intro w'
            go_simp
            with_reducible rfl
           rotate_left
           ·simp only [Act.put, List.setIfInBounds_toArray, List.set_cons_zero, List.set_cons_succ, i64_w, i32_w]
            rfl
           refine pure_ (i := 10) (N := some 29) (v := ?_) (a' := ?_) #[true, true, true, true, true, true, true, true, false, true, true, false, false, false, false, false, false, false, false] rfl rfl (any_of HT_.out (by kernel_rfl)) (fun _ _ _ h => h) (Or.inl ⟨by rfl, ?_⟩) ?_ ?_
           rotate_left
           ·intro w'
            go_simp
            with_reducible rfl
           rotate_left
           ·simp only [Act.put, List.setIfInBounds_toArray, List.set_cons_zero, List.set_cons_succ, i64_w, i32_w]
            rfl
           refine pure_ (i := 14) (N := some 33) (v := ?_) (a' := ?_) #[true, true, true, true, true, true, true, true, false, true, true, false, false, false, true, false, false, false, false] rfl rfl (any_of HT_.out (by kernel_rfl)) (fun _ _ _ h => h) (Or.inl ⟨by rfl, ?_⟩) ?_ ?_
           rotate_left
           ·intro w'
            go_simp
            with_reducible rfl
           rotate_left
           ·simp only [Act.put, List.setIfInBounds_toArray, List.set_cons_zero, List.set_cons_succ, i64_w, i32_w]
            rfl
           refine take_ (i := 8) (N := some 27) (v := ?_) (a' := ?_) #[true, true, true, true, true, true, true, true, true, true, true, false, false, false, true, false, false, false, false] rfl rfl (take_ofW HT_.out HW_.out (by kernel_rfl)) (fun _ _ _ h => h) (Or.inl ⟨by rfl, ?_⟩) hHeld ?_ ?_
           rotate_left
           ·rintro w' ⟨s0, s1, s2, s3, s4, s5, s6, s7⟩
            go_simp
            with_reducible rfl
           rotate_left
           ·simp only [Act.put, List.setIfInBounds_toArray, List.set_cons_zero, List.set_cons_succ, i64_w, i32_w]
            rfl
           refine pure_ (i := 11) (N := some 30) (v := ?_) (a' := ?_) #[true, true, true, true, true, true, true, true, true, true, true, true, false, false, true, false, false, false, false] rfl rfl (any_of HT_.out (by kernel_rfl)) (fun _ _ _ h => h) (Or.inl ⟨by rfl, ?_⟩) ?_ ?_
           rotate_left
           ·intro w'
            go_simp
            with_reducible rfl
           rotate_left
           ·simp only [Act.put, List.setIfInBounds_toArray, List.set_cons_zero, List.set_cons_succ, i64_w, i32_w]
            rfl
           refine pure_ (i := 12) (N := some 31) (v := ?_) (a' := ?_) #[true, true, true, true, true, true, true, true, true, true, true, true, true, false, true, false, false, false, false] rfl rfl (any_of HT_.out (by kernel_rfl)) (fun _ _ _ h => h) (Or.inl ⟨by rfl, ?_⟩) ?_ ?_
           rotate_left
           ·intro w'
            go_simp
            with_reducible rfl
           rotate_left
           ·simp only [Act.put, List.setIfInBounds_toArray, List.set_cons_zero, List.set_cons_succ, i64_w, i32_w]
            rfl
           refine take_ (i := 13) (N := some 32) (v := ?_) (a' := ?_) #[true, true, true, true, true, true, true, true, true, true, true, true, true, true, true, false, false, false, false] rfl rfl (take_ofW HT_.out HW_.out (by kernel_rfl)) (fun _ _ _ h => h) (Or.inl ⟨by rfl, ?_⟩) hHeld ?_ ?_
           rotate_left
           ·rintro w' ⟨s0, s1, s2, s3, s4, s5, s6, s7⟩
            go_simp
            with_reducible rfl
           rotate_left
           ·simp only [Act.put, List.setIfInBounds_toArray, List.set_cons_zero, List.set_cons_succ, i64_w, i32_w]
            rfl
           refine take_ (i := 15) (N := some 34) (v := ?_) (a' := ?_) #[true, true, true, true, true, true, true, true, true, true, true, true, true, true, true, true, false, false, false] rfl rfl (take_ofW HT_.out HW_.out (by kernel_rfl)) (fun _ _ _ h => h) (Or.inl ⟨by rfl, ?_⟩) hHeld ?_ ?_
           rotate_left
           ·rintro w' ⟨s0, s1, s2, s3, s4, s5, s6, s7⟩
            go_simp
            with_reducible rfl
           rotate_left
           ·simp only [Act.put, List.setIfInBounds_toArray, List.set_cons_zero, List.set_cons_succ, i64_w, i32_w]
            rfl
           refine pure_ (i := 16) (N := some 35) (v := ?_) (a' := ?_) #[true, true, true, true, true, true, true, true, true, true, true, true, true, true, true, true, true, false, false] rfl rfl (any_of HT_.out (by kernel_rfl)) (fun _ _ _ h => h) (Or.inl ⟨by rfl, ?_⟩) ?_ ?_
           rotate_left
           ·intro w'
            go_simp
            with_reducible rfl
           rotate_left
           ·simp only [Act.put, List.setIfInBounds_toArray, List.set_cons_zero, List.set_cons_succ, i64_w, i32_w]
            rfl
           refine pure_ (i := 17) (N := some 36) (v := ?_) (a' := ?_) #[true, true, true, true, true, true, true, true, true, true, true, true, true, true, true, true, true, true, false] rfl rfl (any_of HT_.out (by kernel_rfl)) (fun _ _ _ h => h) (Or.inl ⟨by rfl, ?_⟩) ?_ ?_
           rotate_left
           ·intro w'
            go_simp
            with_reducible rfl
           rotate_left
           ·simp only [Act.put, List.setIfInBounds_toArray, List.set_cons_zero, List.set_cons_succ, i64_w, i32_w]
            rfl
           refine pure_ (i := 18) (N := some 37) (v := ?_) (a' := ?_) #[true, true, true, true, true, true, true, true, true, true, true, true, true, true, true, true, true, true, true] rfl rfl (any_of HT_.out (by kernel_rfl)) (fun _ _ _ h => h) (Or.inl ⟨by rfl, ?_⟩) ?_ ?_
           rotate_left
           ·intro w'
            go_simp
            with_reducible rfl
           rotate_left
           ·simp only [Act.put, List.setIfInBounds_toArray, List.set_cons_zero, List.set_cons_succ, i64_w, i32_w]
            rfl
           refine done_ (done_of HT_.out (by kernel_rfl)) ?_
           replace H := H.out
           by_cases c21 : ((rd_T40 l0_1 (ji12)).f0) ≥ ((rd_T40 l0_1 x14_1).f0)
           ·rw [if_pos c21] at H; have c21b0 : decide (((rd_T40 l0_1 x14_1).f0) ≤ ((rd_T40 l0_1 (ji12)).f0)) = true := decide_eq_true c21; clear c21; (try simp only [c21b0])
            obtain rfl := Option.some.inj H
            go_wp2
            go_ret
            exact ⟨by first | rfl | (simp [errW_none, errW_some] <;> rfl) | (simp only [← hji12]; first | rfl | (simp [errW_none, errW_some] <;> rfl)) | (simp [*, errW_none, errW_some] <;> rfl), by exact bel0⟩
           ·rw [if_neg c21] at H; have c21b0 : decide (((rd_T40 l0_1 x14_1).f0) ≤ ((rd_T40 l0_1 (ji12)).f0)) = false := decide_eq_false c21; clear c21; (try simp only [c21b0])
            have H' := Aside0.mk H
            clear H
            go_wp2
            go_roundg k1
            case measure => have := HK1.out; omega
            case rel => exact ⟨(wrap64 (x14_1 + 1)), (by first | rfl | (simp; done) | (simp [*]; done)), H', ⟨by have := HK1.out; omega⟩, ⟨by exact blk_nw BK457.out⟩, ⟨by exact bel0⟩⟩
          ·rw [if_neg c14] at H
           exact absurd H (by simp)
         ·rw [if_neg c13] at H
          exact absurd H (by simp)
        ·rw [if_neg c11] at H; have c11b0 : decide (0 < x14_1) = false := decide_eq_false c11; clear c11; (try simp only [c11b0])
         have H' := Aside0.mk H
         clear H
         have p458 : 0 ≤ (x14_1 : Int) := of_decide_eq_true (by first | (with_reducible assumption) | assumption)
         have q458 : x14_1 < (l0_1.length : Int) := of_decide_eq_true (by first | (with_reducible assumption) | assumption)
         obtain ⟨ad458, e458, hx458_0, hx458_1, hx458_2⟩ := at_T40 HR0_1.out x14_1 p458 q458
         cases e458
         replace hx458_0 := (HB.out.cell (World.block_lt_of_cell? w _ hx458_0)).trans hx458_0
         replace hx458_1 := (HB.out.cell (World.block_lt_of_cell? w _ hx458_1)).trans hx458_1
         replace hx458_2 := (HB.out.cell (World.block_lt_of_cell? w _ hx458_2)).trans hx458_2
         replace p458 := eq_true p458
         replace q458 := eq_true q458
         try go_wp2_with (first | ((with_reducible refine gate_dst (N := 4) rfl ?_); refine box_event ?hg (N := 4) ?hd (cs := #[.int .i64 0, .int .i64 0, .int .i64 0]) (t := 40) ?hr ?_; (case hd => rfl); (case hg => rfl); (case hr => first | (go_simp; done) | (go_simp; rfl)); intro gb459 hg w22 hbox hb; have n_ := an (blk_below (blk_nw BK457.out) hb) (an (below_step (by exact bel0) hb) (an (hbox) (an ((by rw [hg]; exact (below_size (by exact bel0)) : w.heap.size ≤ gb459)) (an ((by rw [hg]; exact (below_size (by exact bel0)) : w.heap.size ≤ gb459)) (an ((by rw [hg]; exact Nat.ne_of_lt (blk_lt (blk_nw BK457.out)) : gb457 ≠ gb459)) (an ((by rw [hg]; exact Nat.ne_of_gt (blk_lt (blk_nw BK457.out)) : gb459 ≠ gb457)) (trivial))))))); clear BK457 HB; obtain ⟨BK457, HB, BK459, GW459, GE459, NB457_459, NB459_457, -⟩ := n_; clear hb hbox hg; have hnb23 := NB459_457.out; have hnc23 := NB457_459.out; obtain ⟨hcz24_0, hcz24_1, hcz24_2⟩ := blkz3 BK459.out; have hfz24_0 := blkf BK459.out))
         have n0_ : Aside0 ((((w22.setCell ⟨gb459, 0, none⟩ (.int .i64 ((rd_T40 l0_1 x14_1).f0))).setCell ⟨gb459, 1, none⟩ (.int .i64 ((rd_T40 l0_1 x14_1).f1))).setCell ⟨gb459, 2, none⟩ (.int .i64 ((rd_T40 l0_1 x14_1).f2))).heap[gb457]? = some (.cells #[.int .i64 a0_0, .slice (some ad458) l0_1.length c0_1] 28 (0, 0))) := ⟨by exact blk_kb BK457.out NB457_459.out⟩
         have n1_ : Aside0 ((((w22.setCell ⟨gb459, 0, none⟩ (.int .i64 ((rd_T40 l0_1 x14_1).f0))).setCell ⟨gb459, 1, none⟩ (.int .i64 ((rd_T40 l0_1 x14_1).f1))).setCell ⟨gb459, 2, none⟩ (.int .i64 ((rd_T40 l0_1 x14_1).f2))).heap[gb459]? = some (.cells #[.int .i64 ((rd_T40 l0_1 x14_1).f0), .int .i64 ((rd_T40 l0_1 x14_1).f1), .int .i64 ((rd_T40 l0_1 x14_1).f2)] 40 (0, 0))) := ⟨by (with_reducible repeat (first | refine blk_drewN ?_ _ | refine blk_drew ?_ | refine blk_alloc ?_ _)); exact blk_fill3 BK459.out⟩
         have n2_ : Aside0 (Below w.heap.size w (((w22.setCell ⟨gb459, 0, none⟩ (.int .i64 ((rd_T40 l0_1 x14_1).f0))).setCell ⟨gb459, 1, none⟩ (.int .i64 ((rd_T40 l0_1 x14_1).f1))).setCell ⟨gb459, 2, none⟩ (.int .i64 ((rd_T40 l0_1 x14_1).f2)))) := ⟨by exact bel0⟩
         (try clear BK457); (try clear BK459); (try clear HB)
         generalize (((w22.setCell ⟨gb459, 0, none⟩ (.int .i64 ((rd_T40 l0_1 x14_1).f0))).setCell ⟨gb459, 1, none⟩ (.int .i64 ((rd_T40 l0_1 x14_1).f1))).setCell ⟨gb459, 2, none⟩ (.int .i64 ((rd_T40 l0_1 x14_1).f2))) = w25 at n0_ n1_ n2_ ⊢
         have BK457 := n0_
         have BK459 := n1_
         have HB := n2_
         clear n0_ n1_ n2_
         have n_ := an (blk_drew BK457.out) (an (blk_drew BK459.out) (an (below_drew1 HB.out) (trivial)))
         clear BK457 BK459 HB
         obtain ⟨BK457, BK459, HB, -⟩ := n_
         refine start_ (n := 19) (S := fun w' => w'.cell? ⟨gb459, 0, none⟩ = some (.int .i64 ((rd_T40 l0_1 x14_1).f0)) ∧ w'.cell? ⟨gb459, 1, none⟩ = some (.int .i64 ((rd_T40 l0_1 x14_1).f1)) ∧ w'.cell? ⟨gb459, 2, none⟩ = some (.int .i64 ((rd_T40 l0_1 x14_1).f2))) (ds := []) #[false, false, false, false, false, false, false, false, false, false, false, false, false, false, false, false, false, false, false] (by kernel_rfl) rfl rfl ⟨(blk_cell BK459.out 0).trans rfl, (blk_cell BK459.out 1).trans rfl, (blk_cell BK459.out 2).trans rfl⟩ (fun hHeld => ?_); refine with_tabW impl_TableOk.tab6 impl_TableOk.bits6 (fun HT_ HW_ => ?_)
         generalize w25.drew = w26 at BK457 BK459 HB hHeld ⊢
         refine take_ (i := 0) (N := some 19) (v := ?_) (a' := ?_) #[true, false, false, false, false, false, false, false, false, false, false, false, false, false, false, false, false, false, false] rfl rfl (take_ofW HT_.out HW_.out (by kernel_rfl)) (fun _ _ _ h => h) (Or.inl ⟨by rfl, ?_⟩) hHeld ?_ ?_
         rotate_left
         ·rintro w' ⟨s0, s1, s2⟩
          go_simp
          with_reducible rfl
         rotate_left
         ·simp only [Act.put, List.setIfInBounds_toArray, List.set_cons_zero, List.set_cons_succ, i64_w, i32_w]
          rfl
         refine one_ (i := 1) (N := some 20) #[true, true, false, false, false, false, false, false, false, false, false, false, false, false, false, false, false, false, false] rfl rfl (one_of HT_.out (by kernel_rfl)) (by decide) (fun K hK => ?_)
         refine goes_ Try.func39 (by kernel_rfl) rfl #[.agg #[.int .i64 ((rd_T40 l0_1 x14_1).f0), .int .i64 ((rd_T40 l0_1 x14_1).f1), .int .i64 ((rd_T40 l0_1 x14_1).f2)]] (by rfl) rfl rfl (by (try simp only [List.map_toArray, List.map_cons, List.map_nil]); first | done | rfl | (simp only [List.length_drop, List.length_take]; rfl)) ?_
         with_reducible refine (impl_MemberOk.calls ((rd_T40 l0_1 x14_1).f0) ((rd_T40 l0_1 x14_1).f1) ((rd_T40 l0_1 x14_1).f2) true _ A9.out).mono ?_
         rintro e w27 ⟨rfl, hb⟩
         refine ⟨_, rfl, ?_⟩
         have n_ := an (blk_below (blk_nw BK457.out) hb) (an (blk_below (blk_nw BK459.out) hb) (an (below_step (by exact bel0) hb) (trivial)))
         clear BK457 BK459 HB
         obtain ⟨BK457, BK459, HB, -⟩ := n_
         (try clear hb); (try clear hb2); (try clear hk); (try clear hi)
         refine hK.out _ _ ⟨(blk_cell BK459.out 0).trans rfl, (blk_cell BK459.out 1).trans rfl, (blk_cell BK459.out 2).trans rfl⟩ (fun hHeld => ?_)
         clear hK K
         refine norm_ (a' := ?_) ?_ ?_
         rotate_left
         ·show Act.put _ (some 20) _ = _
          simp only [Act.put, List.setIfInBounds_toArray, List.set_cons_zero, List.set_cons_succ, i64_w, i32_w]
          rfl
         refine pure_ (i := 2) (N := some 21) (v := ?_) (a' := ?_) #[true, true, true, false, false, false, false, false, false, false, false, false, false, false, false, false, false, false, false] rfl rfl (any_of HT_.out (by kernel_rfl)) (fun _ _ _ h => h) (Or.inl ⟨by rfl, ?_⟩) ?_ ?_
         rotate_left
         ·intro w'
          go_simp
          with_reducible rfl
         rotate_left
         ·simp only [Act.put, List.setIfInBounds_toArray, List.set_cons_zero, List.set_cons_succ, i64_w, i32_w]
          rfl
         refine pure_ (i := 3) (N := some 22) (v := ?_) (a' := ?_) #[true, true, true, true, false, false, false, false, false, false, false, false, false, false, false, false, false, false, false] rfl rfl (any_of HT_.out (by kernel_rfl)) (fun _ _ _ h => h) (Or.inl ⟨by rfl, ?_⟩) ?_ ?_
         rotate_left
         ·intro w'
          go_simp
          with_reducible rfl
         rotate_left
         ·simp only [Act.put, List.setIfInBounds_toArray, List.set_cons_zero, List.set_cons_succ, i64_w, i32_w]
          rfl
         refine pure_ (i := 4) (N := some 23) (v := ?_) (a' := ?_) #[true, true, true, true, true, false, false, false, false, false, false, false, false, false, false, false, false, false, false] rfl rfl (any_of HT_.out (by kernel_rfl)) (fun _ _ _ h => h) (Or.inl ⟨by rfl, ?_⟩) ?_ ?_
         rotate_left
         ·intro w'
          go_simp
          with_reducible rfl
         rotate_left
         ·simp only [Act.put, List.setIfInBounds_toArray, List.set_cons_zero, List.set_cons_succ, i64_w, i32_w]
          rfl
         refine pure_ (i := 5) (N := some 24) (v := ?_) (a' := ?_) #[true, true, true, true, true, true, false, false, false, false, false, false, false, false, false, false, false, false, false] rfl rfl (any_of HT_.out (by kernel_rfl)) (fun _ _ _ h => h) (Or.inl ⟨by rfl, ?_⟩) ?_ ?_
         rotate_left
         ·intro w'
          go_simp
          with_reducible rfl
         rotate_left
         ·simp only [Act.put, List.setIfInBounds_toArray, List.set_cons_zero, List.set_cons_succ, i64_w, i32_w]
          rfl
         refine pure_ (i := 6) (N := some 25) (v := ?_) (a' := ?_) #[true, true, true, true, true, true, true, false, false, false, false, false, false, false, false, false, false, false, false] rfl rfl (any_of HT_.out (by kernel_rfl)) (fun _ _ _ h => h) (Or.inl ⟨by rfl, ?_⟩) ?_ ?_
         rotate_left
         ·intro w'
          go_simp
          with_reducible rfl
         rotate_left
         ·simp only [Act.put, List.setIfInBounds_toArray, List.set_cons_zero, List.set_cons_succ, i64_w, i32_w]
          rfl
         refine pure_ (i := 7) (N := some 26) (v := undef) (a' := ?_) #[true, true, true, true, true, true, true, true, false, false, false, false, false, false, false, false, false, false, false] rfl rfl (any_of HT_.out (by kernel_rfl)) (fun _ _ _ h => h) (Or.inr ⟨by rfl, rfl⟩) ?_ ?_
         rotate_left
         ·simp only [Act.put, List.setIfInBounds_toArray, List.set_cons_zero, List.set_cons_succ, i64_w, i32_w]
          rfl
         refine pure_ (i := 8) (N := some 27) (v := undef) (a' := ?_) #[true, true, true, true, true, true, true, true, true, false, false, false, false, false, false, false, false, false, false] rfl rfl (any_of HT_.out (by kernel_rfl)) (fun _ _ _ h => h) (Or.inr ⟨by rfl, rfl⟩) ?_ ?_
         rotate_left
         ·simp only [Act.put, List.setIfInBounds_toArray, List.set_cons_zero, List.set_cons_succ, i64_w, i32_w]
          rfl
         refine pure_ (i := 9) (N := some 28) (v := undef) (a' := ?_) #[true, true, true, true, true, true, true, true, true, true, false, false, false, false, false, false, false, false, false] rfl rfl (any_of HT_.out (by kernel_rfl)) (fun _ _ _ h => h) (Or.inr ⟨by rfl, rfl⟩) ?_ ?_
         rotate_left
         ·simp only [Act.put, List.setIfInBounds_toArray, List.set_cons_zero, List.set_cons_succ, i64_w, i32_w]
          rfl
         refine pure_ (i := 10) (N := some 29) (v := undef) (a' := ?_) #[true, true, true, true, true, true, true, true, true, true, true, false, false, false, false, false, false, false, false] rfl rfl (any_of HT_.out (by kernel_rfl)) (fun _ _ _ h => h) (Or.inr ⟨by rfl, rfl⟩) ?_ ?_
         rotate_left
         ·simp only [Act.put, List.setIfInBounds_toArray, List.set_cons_zero, List.set_cons_succ, i64_w, i32_w]
          rfl
         refine pure_ (i := 11) (N := some 30) (v := undef) (a' := ?_) #[true, true, true, true, true, true, true, true, true, true, true, true, false, false, false, false, false, false, false] rfl rfl (any_of HT_.out (by kernel_rfl)) (fun _ _ _ h => h) (Or.inr ⟨by rfl, rfl⟩) ?_ ?_
         rotate_left
         ·simp only [Act.put, List.setIfInBounds_toArray, List.set_cons_zero, List.set_cons_succ, i64_w, i32_w]
          rfl
         refine pure_ (i := 12) (N := some 31) (v := undef) (a' := ?_) #[true, true, true, true, true, true, true, true, true, true, true, true, true, false, false, false, false, false, false] rfl rfl (any_of HT_.out (by kernel_rfl)) (fun _ _ _ h => h) (Or.inr ⟨by rfl, rfl⟩) ?_ ?_
         rotate_left
         ·simp only [Act.put, List.setIfInBounds_toArray, List.set_cons_zero, List.set_cons_succ, i64_w, i32_w]
          rfl
         refine pure_ (i := 13) (N := some 32) (v := undef) (a' := ?_) #[true, true, true, true, true, true, true, true, true, true, true, true, true, true, false, false, false, false, false] rfl rfl (any_of HT_.out (by kernel_rfl)) (fun _ _ _ h => h) (Or.inr ⟨by rfl, rfl⟩) ?_ ?_
         rotate_left
         ·simp only [Act.put, List.setIfInBounds_toArray, List.set_cons_zero, List.set_cons_succ, i64_w, i32_w]
          rfl
         refine pure_ (i := 14) (N := some 33) (v := undef) (a' := ?_) #[true, true, true, true, true, true, true, true, true, true, true, true, true, true, true, false, false, false, false] rfl rfl (any_of HT_.out (by kernel_rfl)) (fun _ _ _ h => h) (Or.inr ⟨by rfl, rfl⟩) ?_ ?_
         rotate_left
         ·simp only [Act.put, List.setIfInBounds_toArray, List.set_cons_zero, List.set_cons_succ, i64_w, i32_w]
          rfl
         refine pure_ (i := 15) (N := some 34) (v := undef) (a' := ?_) #[true, true, true, true, true, true, true, true, true, true, true, true, true, true, true, true, false, false, false] rfl rfl (any_of HT_.out (by kernel_rfl)) (fun _ _ _ h => h) (Or.inr ⟨by rfl, rfl⟩) ?_ ?_
         rotate_left
         ·simp only [Act.put, List.setIfInBounds_toArray, List.set_cons_zero, List.set_cons_succ, i64_w, i32_w]
          rfl
         refine pure_ (i := 16) (N := some 35) (v := undef) (a' := ?_) #[true, true, true, true, true, true, true, true, true, true, true, true, true, true, true, true, true, false, false] rfl rfl (any_of HT_.out (by kernel_rfl)) (fun _ _ _ h => h) (Or.inr ⟨by rfl, rfl⟩) ?_ ?_
         rotate_left
         ·simp only [Act.put, List.setIfInBounds_toArray, List.set_cons_zero, List.set_cons_succ, i64_w, i32_w]
          rfl
         refine pure_ (i := 17) (N := some 36) (v := ?_) (a' := ?_) #[true, true, true, true, true, true, true, true, true, true, true, true, true, true, true, true, true, true, false] rfl rfl (any_of HT_.out (by kernel_rfl)) (fun _ _ _ h => h) (Or.inl ⟨by rfl, ?_⟩) ?_ ?_
         rotate_left
         ·intro w'
          go_simp
          with_reducible rfl
         rotate_left
         ·simp only [Act.put, List.setIfInBounds_toArray, List.set_cons_zero, List.set_cons_succ, i64_w, i32_w]
          rfl
         refine pure_ (i := 18) (N := some 37) (v := ?_) (a' := ?_) #[true, true, true, true, true, true, true, true, true, true, true, true, true, true, true, true, true, true, true] rfl rfl (any_of HT_.out (by kernel_rfl)) (fun _ _ _ h => h) (Or.inl ⟨by rfl, ?_⟩) ?_ ?_
         rotate_left
         ·intro w'
          go_simp
          with_reducible rfl
         rotate_left
         ·simp only [Act.put, List.setIfInBounds_toArray, List.set_cons_zero, List.set_cons_succ, i64_w, i32_w]
          rfl
         refine done_ (done_of HT_.out (by kernel_rfl)) ?_
         try go_wp2
         go_roundg k1
         case measure => have := HK1.out; omega
         case rel => exact ⟨(wrap64 (x14_1 + 1)), (by first | rfl | (simp; done) | (simp [*]; done)), H', ⟨by have := HK1.out; omega⟩, ⟨by exact blk_nw BK457.out⟩, ⟨by exact bel0⟩⟩
       ·replace c10 := Bool.eq_false_iff.mpr c10
        subst c10
        rw [if_neg (show ¬ (false = true) by decide)] at H
        obtain rfl := Option.some.inj H
        have p458 : 0 ≤ (x14_1 : Int) := of_decide_eq_true (by first | (with_reducible assumption) | assumption)
        have q458 : x14_1 < (l0_1.length : Int) := of_decide_eq_true (by first | (with_reducible assumption) | assumption)
        obtain ⟨ad458, e458, hx458_0, hx458_1, hx458_2⟩ := at_T40 HR0_1.out x14_1 p458 q458
        cases e458
        replace hx458_0 := (HB.out.cell (World.block_lt_of_cell? w _ hx458_0)).trans hx458_0
        replace hx458_1 := (HB.out.cell (World.block_lt_of_cell? w _ hx458_1)).trans hx458_1
        replace hx458_2 := (HB.out.cell (World.block_lt_of_cell? w _ hx458_2)).trans hx458_2
        replace p458 := eq_true p458
        replace q458 := eq_true q458
        try go_wp2_with (first | ((with_reducible refine gate_dst (N := 4) rfl ?_); refine box_event ?hg (N := 4) ?hd (cs := #[.int .i64 0, .int .i64 0, .int .i64 0]) (t := 40) ?hr ?_; (case hd => rfl); (case hg => rfl); (case hr => first | (go_simp; done) | (go_simp; rfl)); intro gb459 hg w28 hbox hb; have n_ := an (blk_below (blk_nw BK457.out) hb) (an (below_step (by exact bel0) hb) (an (hbox) (an ((by rw [hg]; exact (below_size (by exact bel0)) : w.heap.size ≤ gb459)) (an ((by rw [hg]; exact (below_size (by exact bel0)) : w.heap.size ≤ gb459)) (an ((by rw [hg]; exact Nat.ne_of_lt (blk_lt (blk_nw BK457.out)) : gb457 ≠ gb459)) (an ((by rw [hg]; exact Nat.ne_of_gt (blk_lt (blk_nw BK457.out)) : gb459 ≠ gb457)) (trivial))))))); clear BK457 HB; obtain ⟨BK457, HB, BK459, GW459, GE459, NB457_459, NB459_457, -⟩ := n_; clear hb hbox hg; have hnb29 := NB459_457.out; have hnc29 := NB457_459.out; obtain ⟨hcz30_0, hcz30_1, hcz30_2⟩ := blkz3 BK459.out; have hfz30_0 := blkf BK459.out))
        have n0_ : Aside0 ((((w28.setCell ⟨gb459, 0, none⟩ (.int .i64 ((rd_T40 l0_1 x14_1).f0))).setCell ⟨gb459, 1, none⟩ (.int .i64 ((rd_T40 l0_1 x14_1).f1))).setCell ⟨gb459, 2, none⟩ (.int .i64 ((rd_T40 l0_1 x14_1).f2))).heap[gb457]? = some (.cells #[.int .i64 a0_0, .slice (some ad458) l0_1.length c0_1] 28 (0, 0))) := ⟨by exact blk_kb BK457.out NB457_459.out⟩
        have n1_ : Aside0 ((((w28.setCell ⟨gb459, 0, none⟩ (.int .i64 ((rd_T40 l0_1 x14_1).f0))).setCell ⟨gb459, 1, none⟩ (.int .i64 ((rd_T40 l0_1 x14_1).f1))).setCell ⟨gb459, 2, none⟩ (.int .i64 ((rd_T40 l0_1 x14_1).f2))).heap[gb459]? = some (.cells #[.int .i64 ((rd_T40 l0_1 x14_1).f0), .int .i64 ((rd_T40 l0_1 x14_1).f1), .int .i64 ((rd_T40 l0_1 x14_1).f2)] 40 (0, 0))) := ⟨by (with_reducible repeat (first | refine blk_drewN ?_ _ | refine blk_drew ?_ | refine blk_alloc ?_ _)); exact blk_fill3 BK459.out⟩
        have n2_ : Aside0 (Below w.heap.size w (((w28.setCell ⟨gb459, 0, none⟩ (.int .i64 ((rd_T40 l0_1 x14_1).f0))).setCell ⟨gb459, 1, none⟩ (.int .i64 ((rd_T40 l0_1 x14_1).f1))).setCell ⟨gb459, 2, none⟩ (.int .i64 ((rd_T40 l0_1 x14_1).f2)))) := ⟨by exact bel0⟩
        (try clear BK457); (try clear BK459); (try clear HB)
        generalize (((w28.setCell ⟨gb459, 0, none⟩ (.int .i64 ((rd_T40 l0_1 x14_1).f0))).setCell ⟨gb459, 1, none⟩ (.int .i64 ((rd_T40 l0_1 x14_1).f1))).setCell ⟨gb459, 2, none⟩ (.int .i64 ((rd_T40 l0_1 x14_1).f2))) = w31 at n0_ n1_ n2_ ⊢
        have BK457 := n0_
        have BK459 := n1_
        have HB := n2_
        clear n0_ n1_ n2_
        have n_ := an (blk_drew BK457.out) (an (blk_drew BK459.out) (an (below_drew1 HB.out) (trivial)))
        clear BK457 BK459 HB
        obtain ⟨BK457, BK459, HB, -⟩ := n_
        refine start_ (n := 19) (S := fun w' => w'.cell? ⟨gb459, 0, none⟩ = some (.int .i64 ((rd_T40 l0_1 x14_1).f0)) ∧ w'.cell? ⟨gb459, 1, none⟩ = some (.int .i64 ((rd_T40 l0_1 x14_1).f1)) ∧ w'.cell? ⟨gb459, 2, none⟩ = some (.int .i64 ((rd_T40 l0_1 x14_1).f2))) (ds := []) #[false, false, false, false, false, false, false, false, false, false, false, false, false, false, false, false, false, false, false] (by kernel_rfl) rfl rfl ⟨(blk_cell BK459.out 0).trans rfl, (blk_cell BK459.out 1).trans rfl, (blk_cell BK459.out 2).trans rfl⟩ (fun hHeld => ?_); refine with_tabW impl_TableOk.tab6 impl_TableOk.bits6 (fun HT_ HW_ => ?_)
        generalize w31.drew = w32 at BK457 BK459 HB hHeld ⊢
        refine take_ (i := 0) (N := some 19) (v := ?_) (a' := ?_) #[true, false, false, false, false, false, false, false, false, false, false, false, false, false, false, false, false, false, false] rfl rfl (take_ofW HT_.out HW_.out (by kernel_rfl)) (fun _ _ _ h => h) (Or.inl ⟨by rfl, ?_⟩) hHeld ?_ ?_
        rotate_left
        ·rintro w' ⟨s0, s1, s2⟩
         go_simp
         with_reducible rfl
        rotate_left
        ·simp only [Act.put, List.setIfInBounds_toArray, List.set_cons_zero, List.set_cons_succ, i64_w, i32_w]
         rfl
        refine one_ (i := 1) (N := some 20) #[true, true, false, false, false, false, false, false, false, false, false, false, false, false, false, false, false, false, false] rfl rfl (one_of HT_.out (by kernel_rfl)) (by decide) (fun K hK => ?_)
        refine goes_ Try.func39 (by kernel_rfl) rfl #[.agg #[.int .i64 ((rd_T40 l0_1 x14_1).f0), .int .i64 ((rd_T40 l0_1 x14_1).f1), .int .i64 ((rd_T40 l0_1 x14_1).f2)]] (by rfl) rfl rfl (by (try simp only [List.map_toArray, List.map_cons, List.map_nil]); first | done | rfl | (simp only [List.length_drop, List.length_take]; rfl)) ?_
        with_reducible refine (impl_MemberOk.calls ((rd_T40 l0_1 x14_1).f0) ((rd_T40 l0_1 x14_1).f1) ((rd_T40 l0_1 x14_1).f2) false _ A9.out).mono ?_
        rintro e w33 ⟨rfl, hb⟩
        refine ⟨_, rfl, ?_⟩
        have n_ := an (blk_below (blk_nw BK457.out) hb) (an (blk_below (blk_nw BK459.out) hb) (an (below_step (by exact bel0) hb) (trivial)))
        clear BK457 BK459 HB
        obtain ⟨BK457, BK459, HB, -⟩ := n_
        (try clear hb); (try clear hb2); (try clear hk); (try clear hi)
        refine hK.out _ _ ⟨(blk_cell BK459.out 0).trans rfl, (blk_cell BK459.out 1).trans rfl, (blk_cell BK459.out 2).trans rfl⟩ (fun hHeld => ?_)
        clear hK K
        refine norm_ (a' := ?_) ?_ ?_
        rotate_left
        ·show Act.put _ (some 20) _ = _
         simp only [Act.put, List.setIfInBounds_toArray, List.set_cons_zero, List.set_cons_succ, i64_w, i32_w]
         rfl
        refine pure_ (i := 2) (N := some 21) (v := ?_) (a' := ?_) #[true, true, true, false, false, false, false, false, false, false, false, false, false, false, false, false, false, false, false] rfl rfl (any_of HT_.out (by kernel_rfl)) (fun _ _ _ h => h) (Or.inl ⟨by rfl, ?_⟩) ?_ ?_
        rotate_left
        ·intro w'
         go_simp
         with_reducible rfl
        rotate_left
        ·simp only [Act.put, List.setIfInBounds_toArray, List.set_cons_zero, List.set_cons_succ, i64_w, i32_w]
         rfl
        refine pure_ (i := 3) (N := some 22) (v := ?_) (a' := ?_) #[true, true, true, true, false, false, false, false, false, false, false, false, false, false, false, false, false, false, false] rfl rfl (any_of HT_.out (by kernel_rfl)) (fun _ _ _ h => h) (Or.inl ⟨by rfl, ?_⟩) ?_ ?_
        rotate_left
        ·intro w'
         go_simp
         with_reducible rfl
        rotate_left
        ·simp only [Act.put, List.setIfInBounds_toArray, List.set_cons_zero, List.set_cons_succ, i64_w, i32_w]
         rfl
        refine pure_ (i := 4) (N := some 23) (v := undef) (a' := ?_) #[true, true, true, true, true, false, false, false, false, false, false, false, false, false, false, false, false, false, false] rfl rfl (any_of HT_.out (by kernel_rfl)) (fun _ _ _ h => h) (Or.inr ⟨by rfl, rfl⟩) ?_ ?_
        rotate_left
        ·simp only [Act.put, List.setIfInBounds_toArray, List.set_cons_zero, List.set_cons_succ, i64_w, i32_w]
         rfl
        refine pure_ (i := 5) (N := some 24) (v := undef) (a' := ?_) #[true, true, true, true, true, true, false, false, false, false, false, false, false, false, false, false, false, false, false] rfl rfl (any_of HT_.out (by kernel_rfl)) (fun _ _ _ h => h) (Or.inr ⟨by rfl, rfl⟩) ?_ ?_
        rotate_left
        ·simp only [Act.put, List.setIfInBounds_toArray, List.set_cons_zero, List.set_cons_succ, i64_w, i32_w]
         rfl
        refine pure_ (i := 6) (N := some 25) (v := undef) (a' := ?_) #[true, true, true, true, true, true, true, false, false, false, false, false, false, false, false, false, false, false, false] rfl rfl (any_of HT_.out (by kernel_rfl)) (fun _ _ _ h => h) (Or.inr ⟨by rfl, rfl⟩) ?_ ?_
        rotate_left
        ·simp only [Act.put, List.setIfInBounds_toArray, List.set_cons_zero, List.set_cons_succ, i64_w, i32_w]
         rfl
        refine pure_ (i := 7) (N := some 26) (v := undef) (a' := ?_) #[true, true, true, true, true, true, true, true, false, false, false, false, false, false, false, false, false, false, false] rfl rfl (any_of HT_.out (by kernel_rfl)) (fun _ _ _ h => h) (Or.inr ⟨by rfl, rfl⟩) ?_ ?_
        rotate_left
        ·simp only [Act.put, List.setIfInBounds_toArray, List.set_cons_zero, List.set_cons_succ, i64_w, i32_w]
         rfl
        refine pure_ (i := 8) (N := some 27) (v := undef) (a' := ?_) #[true, true, true, true, true, true, true, true, true, false, false, false, false, false, false, false, false, false, false] rfl rfl (any_of HT_.out (by kernel_rfl)) (fun _ _ _ h => h) (Or.inr ⟨by rfl, rfl⟩) ?_ ?_
        rotate_left
        ·simp only [Act.put, List.setIfInBounds_toArray, List.set_cons_zero, List.set_cons_succ, i64_w, i32_w]
         rfl
        refine pure_ (i := 9) (N := some 28) (v := undef) (a' := ?_) #[true, true, true, true, true, true, true, true, true, true, false, false, false, false, false, false, false, false, false] rfl rfl (any_of HT_.out (by kernel_rfl)) (fun _ _ _ h => h) (Or.inr ⟨by rfl, rfl⟩) ?_ ?_
        rotate_left
        ·simp only [Act.put, List.setIfInBounds_toArray, List.set_cons_zero, List.set_cons_succ, i64_w, i32_w]
         rfl
        refine pure_ (i := 10) (N := some 29) (v := undef) (a' := ?_) #[true, true, true, true, true, true, true, true, true, true, true, false, false, false, false, false, false, false, false] rfl rfl (any_of HT_.out (by kernel_rfl)) (fun _ _ _ h => h) (Or.inr ⟨by rfl, rfl⟩) ?_ ?_
        rotate_left
        ·simp only [Act.put, List.setIfInBounds_toArray, List.set_cons_zero, List.set_cons_succ, i64_w, i32_w]
         rfl
        refine pure_ (i := 11) (N := some 30) (v := undef) (a' := ?_) #[true, true, true, true, true, true, true, true, true, true, true, true, false, false, false, false, false, false, false] rfl rfl (any_of HT_.out (by kernel_rfl)) (fun _ _ _ h => h) (Or.inr ⟨by rfl, rfl⟩) ?_ ?_
        rotate_left
        ·simp only [Act.put, List.setIfInBounds_toArray, List.set_cons_zero, List.set_cons_succ, i64_w, i32_w]
         rfl
        refine pure_ (i := 12) (N := some 31) (v := undef) (a' := ?_) #[true, true, true, true, true, true, true, true, true, true, true, true, true, false, false, false, false, false, false] rfl rfl (any_of HT_.out (by kernel_rfl)) (fun _ _ _ h => h) (Or.inr ⟨by rfl, rfl⟩) ?_ ?_
        rotate_left
        ·simp only [Act.put, List.setIfInBounds_toArray, List.set_cons_zero, List.set_cons_succ, i64_w, i32_w]
         rfl
        refine pure_ (i := 13) (N := some 32) (v := undef) (a' := ?_) #[true, true, true, true, true, true, true, true, true, true, true, true, true, true, false, false, false, false, false] rfl rfl (any_of HT_.out (by kernel_rfl)) (fun _ _ _ h => h) (Or.inr ⟨by rfl, rfl⟩) ?_ ?_
        rotate_left
        ·simp only [Act.put, List.setIfInBounds_toArray, List.set_cons_zero, List.set_cons_succ, i64_w, i32_w]
         rfl
        refine pure_ (i := 14) (N := some 33) (v := undef) (a' := ?_) #[true, true, true, true, true, true, true, true, true, true, true, true, true, true, true, false, false, false, false] rfl rfl (any_of HT_.out (by kernel_rfl)) (fun _ _ _ h => h) (Or.inr ⟨by rfl, rfl⟩) ?_ ?_
        rotate_left
        ·simp only [Act.put, List.setIfInBounds_toArray, List.set_cons_zero, List.set_cons_succ, i64_w, i32_w]
         rfl
        refine pure_ (i := 15) (N := some 34) (v := undef) (a' := ?_) #[true, true, true, true, true, true, true, true, true, true, true, true, true, true, true, true, false, false, false] rfl rfl (any_of HT_.out (by kernel_rfl)) (fun _ _ _ h => h) (Or.inr ⟨by rfl, rfl⟩) ?_ ?_
        rotate_left
        ·simp only [Act.put, List.setIfInBounds_toArray, List.set_cons_zero, List.set_cons_succ, i64_w, i32_w]
         rfl
        refine pure_ (i := 16) (N := some 35) (v := undef) (a' := ?_) #[true, true, true, true, true, true, true, true, true, true, true, true, true, true, true, true, true, false, false] rfl rfl (any_of HT_.out (by kernel_rfl)) (fun _ _ _ h => h) (Or.inr ⟨by rfl, rfl⟩) ?_ ?_
        rotate_left
        ·simp only [Act.put, List.setIfInBounds_toArray, List.set_cons_zero, List.set_cons_succ, i64_w, i32_w]
         rfl
        refine pure_ (i := 17) (N := some 36) (v := undef) (a' := ?_) #[true, true, true, true, true, true, true, true, true, true, true, true, true, true, true, true, true, true, false] rfl rfl (any_of HT_.out (by kernel_rfl)) (fun _ _ _ h => h) (Or.inr ⟨by rfl, rfl⟩) ?_ ?_
        rotate_left
        ·simp only [Act.put, List.setIfInBounds_toArray, List.set_cons_zero, List.set_cons_succ, i64_w, i32_w]
         rfl
        refine pure_ (i := 18) (N := some 37) (v := ?_) (a' := ?_) #[true, true, true, true, true, true, true, true, true, true, true, true, true, true, true, true, true, true, true] rfl rfl (any_of HT_.out (by kernel_rfl)) (fun _ _ _ h => h) (Or.inl ⟨by rfl, ?_⟩) ?_ ?_
        rotate_left
        ·intro w'
         go_simp
         with_reducible rfl
        rotate_left
        ·simp only [Act.put, List.setIfInBounds_toArray, List.set_cons_zero, List.set_cons_succ, i64_w, i32_w]
         rfl
        refine done_ (done_of HT_.out (by kernel_rfl)) ?_
        try go_wp2
        go_ret
        exact ⟨by first | rfl | (simp [errW_none, errW_some] <;> rfl) | (simp [*, errW_none, errW_some] <;> rfl), by exact bel0⟩
      ·rw [if_neg c8] at H
       exact absurd H (by simp)
     ·rw [if_neg c7] at H
      exact absurd H (by simp)
    ·rw [if_neg c6] at H
     have c6b0 : decide (x14_1 < (l0_1.length : Int)) = false := decide_eq_false c6
     clear c6; (try simp only [c6b0]); replace H := Option.bind_eq_some_iff.mp H
     obtain ⟨⟨t462, t463⟩, A340, H⟩ := H
     replace H : (if t463 = true then (if 0 ≤ t462 then (if t462 < (l0_1.length : Int) then (if ((rd_T40 l0_1 t462).f1) = 0 then (some true) else (if ((rd_T40 l0_1 t462).f1) = 3 then (some true) else (some (((rd_T40 l0_1 t462).f2) == 1000)))) else (none)) else (none)) else (some false)) = some r := H
     have A34 := Aside0.mk A340; clear A340; obtain ⟨hcz35_0, hcz35_1⟩ := blkz2 BK457.out; have hfz35_0 := blkf BK457.out
     replace H := Aside0.mk H
     go_wp2_with (first | ((with_reducible refine gate_callee (f := 40) rfl ?_); refine goesL_ (some 43) rfl rfl Try.func40 (by kernel_rfl) rfl #[.agg #[.int .i64 a0_0, .slice A0_1 l0_1.length c0_1], .int .i64 a0_0] rfl (by (try simp only [List.map_toArray, List.map_cons, List.map_nil]); first | done | rfl | (simp only [List.length_drop, List.length_take]; rfl)) ?_; (with_reducible refine (impl_Table_member.calls k1 a0_0 _ _ l0_1 a0_0 t462 t463 _ ?side1 ?side2 A34.out).mono ?_); (case side1 => repeat (first | exact (Kd.C_below HR0_1.out HB.out) | (with_reducible refine Kd.C_alloc ?_ _) | (with_reducible refine Kd.C_drewN ?_ _) | (with_reducible refine Kd.C_drew ?_))); (case side2 => exact HC0_1.out); rintro e w36 ⟨rfl, hb⟩; refine ⟨_, rfl, ?_⟩; have n_ := an (blk_below (blk_nw BK457.out) hb) (an (below_step (by exact bel0) hb) (trivial)); clear BK457 HB; obtain ⟨BK457, HB, -⟩ := n_; (try clear hb); (try clear hb2); (try clear hk); (try clear hi); refine Stop.out ?_))
     refine Stop.mk ?_
     replace H := H.out
     by_cases c37 : t463 = true
     ·subst c37; rw [if_pos rfl] at H
      by_cases c38 : 0 ≤ t462
      ·rw [if_pos c38] at H; have c38b0 : decide (0 ≤ t462) = true := decide_eq_true c38; clear c38; (try simp only [c38b0])
       by_cases c39 : t462 < (l0_1.length : Int)
       ·rw [if_pos c39] at H
        have c39b0 : decide (t462 < (l0_1.length : Int)) = true := decide_eq_true c39
        clear c39; (try simp only [c39b0])
        by_cases c40 : ((rd_T40 l0_1 t462).f1) = 0
        ·rw [if_pos c40] at H; have c40b0 : (((rd_T40 l0_1 t462).f1) == 0) = true := beq_iff_eq.mpr c40; have c40b1 : (((rd_T40 l0_1 t462).f1) != 0) = false := bne_eq_false_iff_eq.mpr c40; clear c40
         obtain rfl := Option.some.inj H
         obtain ⟨hcz41_0, hcz41_1⟩ := blkz2 BK457.out; have hfz41_0 := blkf BK457.out
         have p464 : 0 ≤ (t462 : Int) := of_decide_eq_true (by first | (with_reducible assumption) | assumption)
         have q464 : t462 < (l0_1.length : Int) := of_decide_eq_true (by first | (with_reducible assumption) | assumption)
         obtain ⟨ad464, e464, hx464_0, hx464_1, hx464_2⟩ := at_T40 HR0_1.out t462 p464 q464
         cases e464
         replace hx464_0 := (HB.out.cell (World.block_lt_of_cell? w _ hx464_0)).trans hx464_0
         replace hx464_1 := (HB.out.cell (World.block_lt_of_cell? w _ hx464_1)).trans hx464_1
         replace hx464_2 := (HB.out.cell (World.block_lt_of_cell? w _ hx464_2)).trans hx464_2
         replace p464 := eq_true p464
         replace q464 := eq_true q464
         go_wp2
         go_ret
         exact ⟨by first | rfl | (simp [errW_none, errW_some] <;> rfl) | (simp [*, errW_none, errW_some] <;> rfl), by exact bel0⟩
        ·rw [if_neg c40] at H; have c40b0 : (((rd_T40 l0_1 t462).f1) == 0) = false := beq_eq_false_iff_ne.mpr c40; have c40b1 : (((rd_T40 l0_1 t462).f1) != 0) = true := bne_iff_ne.mpr c40
         by_cases c42 : ((rd_T40 l0_1 t462).f1) = 3
         ·rw [if_pos c42] at H; have c42b0 : (((rd_T40 l0_1 t462).f1) == 3) = true := beq_iff_eq.mpr c42; have c42b1 : (((rd_T40 l0_1 t462).f1) != 3) = false := bne_eq_false_iff_eq.mpr c42; clear c42
          obtain rfl := Option.some.inj H
          obtain ⟨hcz43_0, hcz43_1⟩ := blkz2 BK457.out; have hfz43_0 := blkf BK457.out
          have p464 : 0 ≤ (t462 : Int) := of_decide_eq_true (by first | (with_reducible assumption) | assumption)
          have q464 : t462 < (l0_1.length : Int) := of_decide_eq_true (by first | (with_reducible assumption) | assumption)
          obtain ⟨ad464, e464, hx464_0, hx464_1, hx464_2⟩ := at_T40 HR0_1.out t462 p464 q464
          cases e464
          replace hx464_0 := (HB.out.cell (World.block_lt_of_cell? w _ hx464_0)).trans hx464_0
          replace hx464_1 := (HB.out.cell (World.block_lt_of_cell? w _ hx464_1)).trans hx464_1
          replace hx464_2 := (HB.out.cell (World.block_lt_of_cell? w _ hx464_2)).trans hx464_2
          replace p464 := eq_true p464
          replace q464 := eq_true q464
          have p465 : 0 ≤ (t462 : Int) := of_decide_eq_true (by first | (with_reducible assumption) | assumption)
          have q465 : t462 < (l0_1.length : Int) := of_decide_eq_true (by first | (with_reducible assumption) | assumption)
          obtain ⟨ad465, e465, hx465_0, hx465_1, hx465_2⟩ := at_T40 HR0_1.out t462 p465 q465
          obtain rfl : ad464 = ad465 := (by injection e465)
          replace hx465_0 := (HB.out.cell (World.block_lt_of_cell? w _ hx465_0)).trans hx465_0
          replace hx465_1 := (HB.out.cell (World.block_lt_of_cell? w _ hx465_1)).trans hx465_1
          replace hx465_2 := (HB.out.cell (World.block_lt_of_cell? w _ hx465_2)).trans hx465_2
          replace p465 := eq_true p465
          replace q465 := eq_true q465
          go_wp2
          go_ret
          exact ⟨by first | rfl | (simp [errW_none, errW_some] <;> rfl) | (simp [*, errW_none, errW_some] <;> rfl), by exact bel0⟩
         ·rw [if_neg c42] at H; have c42b0 : (((rd_T40 l0_1 t462).f1) == 3) = false := beq_eq_false_iff_ne.mpr c42; have c42b1 : (((rd_T40 l0_1 t462).f1) != 3) = true := bne_iff_ne.mpr c42
          obtain rfl := Option.some.inj H
          obtain ⟨hcz44_0, hcz44_1⟩ := blkz2 BK457.out; have hfz44_0 := blkf BK457.out
          have p464 : 0 ≤ (t462 : Int) := of_decide_eq_true (by first | (with_reducible assumption) | assumption)
          have q464 : t462 < (l0_1.length : Int) := of_decide_eq_true (by first | (with_reducible assumption) | assumption)
          obtain ⟨ad464, e464, hx464_0, hx464_1, hx464_2⟩ := at_T40 HR0_1.out t462 p464 q464
          cases e464
          replace hx464_0 := (HB.out.cell (World.block_lt_of_cell? w _ hx464_0)).trans hx464_0
          replace hx464_1 := (HB.out.cell (World.block_lt_of_cell? w _ hx464_1)).trans hx464_1
          replace hx464_2 := (HB.out.cell (World.block_lt_of_cell? w _ hx464_2)).trans hx464_2
          replace p464 := eq_true p464
          replace q464 := eq_true q464
          have p465 : 0 ≤ (t462 : Int) := of_decide_eq_true (by first | (with_reducible assumption) | assumption)
          have q465 : t462 < (l0_1.length : Int) := of_decide_eq_true (by first | (with_reducible assumption) | assumption)
          obtain ⟨ad465, e465, hx465_0, hx465_1, hx465_2⟩ := at_T40 HR0_1.out t462 p465 q465
          obtain rfl : ad464 = ad465 := (by injection e465)
          replace hx465_0 := (HB.out.cell (World.block_lt_of_cell? w _ hx465_0)).trans hx465_0
          replace hx465_1 := (HB.out.cell (World.block_lt_of_cell? w _ hx465_1)).trans hx465_1
          replace hx465_2 := (HB.out.cell (World.block_lt_of_cell? w _ hx465_2)).trans hx465_2
          replace p465 := eq_true p465
          replace q465 := eq_true q465
          have p466 : 0 ≤ (t462 : Int) := of_decide_eq_true (by first | (with_reducible assumption) | assumption)
          have q466 : t462 < (l0_1.length : Int) := of_decide_eq_true (by first | (with_reducible assumption) | assumption)
          obtain ⟨ad466, e466, hx466_0, hx466_1, hx466_2⟩ := at_T40 HR0_1.out t462 p466 q466
          obtain rfl : ad464 = ad466 := (by injection e466)
          replace hx466_0 := (HB.out.cell (World.block_lt_of_cell? w _ hx466_0)).trans hx466_0
          replace hx466_1 := (HB.out.cell (World.block_lt_of_cell? w _ hx466_1)).trans hx466_1
          replace hx466_2 := (HB.out.cell (World.block_lt_of_cell? w _ hx466_2)).trans hx466_2
          replace p466 := eq_true p466
          replace q466 := eq_true q466
          go_wp2
          go_ret
          exact ⟨by first | rfl | (simp [errW_none, errW_some] <;> rfl) | (simp [*, errW_none, errW_some] <;> rfl), by exact bel0⟩
       ·rw [if_neg c39] at H
        exact absurd H (by simp)
      ·rw [if_neg c38] at H
       exact absurd H (by simp)
     ·replace c37 := Bool.eq_false_iff.mpr c37
      subst c37
      rw [if_neg (show ¬ (false = true) by decide)] at H
      obtain rfl := Option.some.inj H
      go_wp2
      go_ret
      exact ⟨by first | rfl | (simp [errW_none, errW_some] <;> rfl) | (simp [*, errW_none, errW_some] <;> rfl), by exact bel0⟩

end Go.Proofs.Ytpoedoefbeabkaa.XFnRounds
