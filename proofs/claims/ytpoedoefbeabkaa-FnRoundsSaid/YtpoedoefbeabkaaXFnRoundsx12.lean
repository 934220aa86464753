-- Written by this session's own program (xprint.py) over the kit's print.
import Derived.Test.YtpoedoefbeabkaaXFnRoundsx0
import Derived.Test.YtpoedoefbeabkaaXFnRoundsx9
import Derived.Test.YtpoedoefbeabkaaXFnRoundsx11
namespace Go.Proofs.Ytpoedoefbeabkaa.XFnRounds
open Go.RowKit Go.Proofs.YtpoedoefbeabkaaW.PrintWords Go.Proofs.YtpoedoefbeabkaaW.PrintLast Go.Proofs.YtpoedoefbeabkaaW.PrintMore
attribute [local go_sem] max2_int min2_int max_two min_two max_three min_three max_four min_four   -- for this text's walks alone
set_option linter.unusedVariables false
set_option linter.unusedSimpArgs false

/-! ### impl_Table_live: function 28 -/
def impl_Table_live.l0 : Nat → List Int → List (S40) → Int → Int → Option (List Int)
  | 0, _, _, _, _ => none
  | k + 1, x3, x7, x8, x9 => if x9 < x8 then (if 0 ≤ x9 then (if x9 < (x7.length : Int) then (if ((rd_T40 x7 x9).f1) = 0 then (if x3.length < 17592186044416 then (impl_Table_live.l0 k (x3 ++ [(rd_T40 x7 x9).f0]) x7 x8 (wrap64 (x9 + 1))) else (none)) else (if ((rd_T40 x7 x9).f1) = 1 then (if x3.length < 17592186044416 then (impl_Table_live.l0 k (x3 ++ [(rd_T40 x7 x9).f0]) x7 x8 (wrap64 (x9 + 1))) else (none)) else (impl_Table_live.l0 k x3 x7 x8 (wrap64 (x9 + 1))))) else (none)) else (none)) else (some x3)
def impl_Table_live.f (k : Nat) (a0_0 : Int) (l0_1 : List (S40)) : Option (List Int) := impl_Table_live.l0 k ([] : List Int) l0_1 (l0_1.length : Int) 0
theorem impl_Table_live.mono_l : ∀ k, (∀ y0 y1 y2 y3, LeO (impl_Table_live.l0 k y0 y1 y2 y3) (impl_Table_live.l0 (k + 1) y0 y1 y2 y3))
 | 0 => fun _ _ _ _ r h => by simp [impl_Table_live.l0] at h
 | k + 1 => by
  have ih0 := impl_Table_live.mono_l k
  ·intro y0 y1 y2 y3
   unfold impl_Table_live.l0
   repeat' first
   | (with_reducible exact ih0 _ _ _ _)
   | (with_reducible exact LeO.refl _)
   | (with_reducible exact LeO.none _)
   | (with_reducible refine LeO.ite ?_ ?_)
   | (with_reducible refine LeO.bind ?_ (fun _ => ?_))
   | exact ih0 _ _ _ _
   | exact LeO.none _
   | refine LeO.ite ?_ ?_
   | refine LeO.bind ?_ (fun _ => ?_)
theorem impl_Table_live.mono : ∀ a0 a1 k, LeO (impl_Table_live.f k a0 a1) (impl_Table_live.f (k + 1) a0 a1) := by
 intro a0 a1 k
 have ih0 := impl_Table_live.mono_l k
 unfold impl_Table_live.f
 repeat' first
   | (with_reducible exact ih0 _ _ _ _)
   | (with_reducible exact LeO.refl _)
   | (with_reducible exact LeO.none _)
   | (with_reducible refine LeO.ite ?_ ?_)
   | (with_reducible refine LeO.bind ?_ (fun _ => ?_))
   | exact ih0 _ _ _ _
   | exact LeO.none _
   | refine LeO.ite ?_ ?_
   | refine LeO.bind ?_ (fun _ => ?_)
set_option maxHeartbeats 8000000 in
set_option maxRecDepth 100000 in
theorem impl_Table_live.calls (k : Nat) (a0_0 : Int) (A0_1 : Option Addr) (c0_1 : Nat) (l0_1 : List (S40)) (r : List Int) (w : World) (hr0_1 : Kd.C k40 w A0_1 l0_1.length l0_1) (hc0_1 : l0_1.length ≤ c0_1) (h : impl_Table_live.f k a0_0 l0_1 = some r) :
  Calls Try.prog 28 #[.agg #[.int .i64 a0_0, .slice A0_1 l0_1.length c0_1]] w fun e w' => ∃ v0_ : Value, e = .returned (v0_) ∧ Kd.R (Kd.int .i64) 3 w' w.heap.size (fun _ => True) v0_ r ∧ Below w.heap.size w w' := by
 have hu28 := Try.underlying28
 have hu40 := Try.underlying40
 have HR0_1 := Aside0.mk hr0_1; have HC0_1 := Aside0.mk hc0_1; clear hr0_1 hc0_1
 have HB := Aside0.mk (Below.refl w.heap.size w)
 have H : (impl_Table_live.l0 k ([] : List Int) l0_1 (l0_1.length : Int) 0) = some r := h
 clear h
 have H' := Aside0.mk H
 clear H; go_enter Try.func28, Try.ntmps28
 go_wp2_with (first | ((with_reducible refine gate_dst (N := 1) rfl ?_); refine box_event ?hg (N := 1) ?hd (cs := #[.int .i64 a0_0, .slice A0_1 l0_1.length c0_1]) (t := 28) ?hr ?_; (case hd => rfl); (case hg => rfl); (case hr => first | (go_simp; done) | (go_simp; rfl)); intro gb467 hg w2 hbox hb; have n_ := an (below_step (by exact bel0) hb) (an (hbox) (an ((by rw [hg]; exact (below_size (by exact bel0)) : w.heap.size ≤ gb467)) (an ((by rw [hg]; exact (below_size (by exact bel0)) : w.heap.size ≤ gb467)) (trivial)))); clear HB; obtain ⟨HB, BK467, GW467, GE467, -⟩ := n_; clear hb hbox hg; obtain ⟨hcz3_0, hcz3_1⟩ := blkz2 BK467.out; have hfz3_0 := blkf BK467.out))
 go_loopg [3, 9] k (fun kq v3 v9 w' => ∃ (x3_1 : List Int) (x9_1 : Int), v9 = .int .i64 x9_1 ∧ Aside0 (impl_Table_live.l0 kq x3_1 l0_1 (l0_1.length : Int) x9_1 = some r) ∧ Aside0 (kq ≤ k) ∧ Aside0 (Kd.R (Kd.int .i64) 3 w' w.heap.size (fun _ => True) v3 x3_1) ∧ Aside0 (w'.heap[gb467]? = some (.cells #[.int .i64 a0_0, (.slice A0_1 l0_1.length c0_1)] 28 (0, 0))) ∧ Aside0 (Below w.heap.size w w'))
 case atStart => exact ⟨(([] : List Int)), (0), (by first | rfl | (simp; done) | (simp [*]; done)), H', ⟨Nat.le_refl _⟩, ⟨by first | exact Kd.R_nil _ _ _ _ _ | exact Kd.N_nil _ _ _ _ _ | exact Kd.V_nil _ _ _ _ _ | exact Kd.Q_nil _ _ _ _ _ | exact Kd.S_nil _ _ _ _ _⟩, ⟨by exact blk_nw BK467.out⟩, ⟨by exact bel0⟩⟩
 case round =>
  clear H'
  try clear c2; try clear p2; try clear hcz3_0; try clear hcz3_1; try clear hfz3_0; try clear hfz3_1
  obtain ⟨x3_1, x9_1, rfl, HA, HK1, HO_3, BK467, HB⟩ := hrel
  cases gk with
  | zero => exact absurd HA.out (by simp [impl_Table_live.l0])
  | succ k1 =>
   have H := HA.out; clear HA
   simp only [impl_Table_live.l0] at H
   by_cases c4 : x9_1 < (l0_1.length : Int)
   ·rw [if_pos c4] at H
    have c4b0 : decide (x9_1 < (l0_1.length : Int)) = true := decide_eq_true c4
    clear c4; (try simp only [c4b0])
    by_cases c5 : 0 ≤ x9_1
    ·rw [if_pos c5] at H; have c5b0 : decide (0 ≤ x9_1) = true := decide_eq_true c5; clear c5; (try simp only [c5b0])
     by_cases c6 : x9_1 < (l0_1.length : Int)
     ·rw [if_pos c6] at H
      have c6b0 : decide (x9_1 < (l0_1.length : Int)) = true := decide_eq_true c6
      clear c6; (try simp only [c6b0])
      have p468 : 0 ≤ (x9_1 : Int) := of_decide_eq_true (by first | (with_reducible assumption) | assumption)
      have q468 : x9_1 < (l0_1.length : Int) := of_decide_eq_true (by first | (with_reducible assumption) | assumption)
      obtain ⟨ad468, e468, hx468_0, hx468_1, hx468_2⟩ := at_T40 HR0_1.out x9_1 p468 q468
      cases e468
      replace hx468_0 := (HB.out.cell (World.block_lt_of_cell? w _ hx468_0)).trans hx468_0
      replace hx468_1 := (HB.out.cell (World.block_lt_of_cell? w _ hx468_1)).trans hx468_1
      replace hx468_2 := (HB.out.cell (World.block_lt_of_cell? w _ hx468_2)).trans hx468_2
      replace p468 := eq_true p468
      replace q468 := eq_true q468
      replace H := Aside0.mk H
      go_wp2_with (first | ((with_reducible refine gate_dst (N := 5) rfl ?_); refine box_event ?hg (N := 5) ?hd (cs := #[.int .i64 0, .int .i64 0, .int .i64 0]) (t := 40) ?hr ?_; (case hd => rfl); (case hg => rfl); (case hr => first | (go_simp; done) | (go_simp; rfl)); intro gb469 hg w7 hbox hb; have n_ := an (Kd.R_below (by exact Kd.R_nw HO_3.out) hb) (an (blk_below (blk_nw BK467.out) hb) (an (below_step (by exact bel0) hb) (an (hbox) (an ((by rw [hg]; exact (below_size (by exact bel0)) : w.heap.size ≤ gb469)) (an ((by rw [hg]; exact (below_size (by exact bel0)) : w.heap.size ≤ gb469)) (an ((by rw [hg]; exact Nat.ne_of_lt (blk_lt (blk_nw BK467.out)) : gb467 ≠ gb469)) (an ((by rw [hg]; exact Nat.ne_of_gt (blk_lt (blk_nw BK467.out)) : gb469 ≠ gb467)) (trivial)))))))); clear HO_3 BK467 HB; obtain ⟨HO_3, BK467, HB, BK469, GW469, GE469, NB467_469, NB469_467, -⟩ := n_; clear hb hbox hg; have hnb8 := NB469_467.out; have hnc8 := NB467_469.out; obtain ⟨hcz9_0, hcz9_1, hcz9_2⟩ := blkz3 BK469.out; have hfz9_0 := blkf BK469.out; refine Stop.out ?_))
      refine Stop.mk ?_
      replace H := H.out
      by_cases c10 : ((rd_T40 l0_1 x9_1).f1) = 0
      ·rw [if_pos c10] at H; have c10b0 : (((rd_T40 l0_1 x9_1).f1) == 0) = true := beq_iff_eq.mpr c10; have c10b1 : (((rd_T40 l0_1 x9_1).f1) != 0) = false := bne_eq_false_iff_eq.mpr c10; clear c10
       by_cases c11 : x3_1.length < 17592186044416
       ·rw [if_pos c11] at H; have LMc11 := Aside0.mk c11; clear c11
        obtain ⟨y470, hy470⟩ : ∃ y_ : List Int, y_ = (x3_1 ++ [(rd_T40 l0_1 x9_1).f0]) := ⟨_, rfl⟩
        replace H : (impl_Table_live.l0 k1 y470 l0_1 (l0_1.length : Int) (wrap64 (x9_1 + 1))) = some r := by first | (rw [hy470]; with_reducible exact H) | (have H2_ := (Option.bind_some _ _).symm.trans H; rw [hy470]; with_reducible exact H2_) | (have H2_ := (Option.bind_some _ _).symm.trans H; with_reducible exact H2_) | with_reducible exact H | (rw [hy470]; exact H) | exact H
        have Ny470 := Aside0.mk hy470; clear hy470
        have H' := Aside0.mk H
        clear H; have hnb12 := NB469_467.out; have hnc12 := NB467_469.out; obtain ⟨hcz13_0, hcz13_1, hcz13_2⟩ := blkz3 BK469.out; have hfz13_0 := blkf BK469.out
        go_wp2_with (first | ((with_reducible refine gate_builtin (b := .append) (xs := #[.tmp 21, .tmp 24]) rfl ?_); at_builtin; refine Kd.R_append (Kd.int .i64) (w0 := w) w.heap.size rfl (.tmp 21) (.tmp 24) 23 3 (.int .i64 0) 8 rfl Try.underlying23 info3 rfl (by decide) (by omega) u3 x3_1 ((rd_T40 l0_1 x9_1).f0) [.int .i64 ((rd_T40 l0_1 x9_1).f0)] (fun _ => True) (fun _ => False) rfl (by first | (go_simp; done) | (go_simp; rfl)) ?aP (fun _ hk => hk.elim) ?aF ?aO ?aB ?aS ?aL ?_; (case aP => exact rfl); (case aB => exact (by exact bel0)); (case aF => exact (fun _ _ => trivial)); (case aO => exact (by exact (Kd.R_farN HO_3.out BK469.out))); (case aS => exact (below_size (by exact bel0))); (case aL => have := LMc11.out; omega); intro v471 w14 ho hb hg hat; rw [← Ny470.out] at ho; have n_ := an (blk_grown (blk_kb BK467.out NB467_469.out) hg (Kd.R_ne HO_3.out BK467.out (by decide))) (an (blk_grown (g := gb469) (o := .cells #[.int .i64 ((rd_T40 l0_1 x9_1).f0), .int .i64 ((rd_T40 l0_1 x9_1).f1), .int .i64 ((rd_T40 l0_1 x9_1).f2)] 40 (0, 0)) (by (with_reducible repeat (first | refine blk_drewN ?_ _ | refine blk_drew ?_ | refine blk_alloc ?_ _)); exact blk_fill3 BK469.out) hg (Kd.R_ne HO_3.out BK469.out (by decide))) (an (hb) (an (ho) (trivial)))); clear BK467 BK469 HB HO_3; obtain ⟨BK467, BK469, HB, HO472, -⟩ := n_; clear ho hb hg hat))
        go_roundg k1
        case measure => have := HK1.out; omega
        case rel => exact ⟨(y470), (wrap64 (x9_1 + 1)), (by first | rfl | (simp; done) | (simp [*]; done)), H', ⟨by have := HK1.out; omega⟩, ⟨by exact Kd.R_nw HO472.out⟩, ⟨by exact blk_nw BK467.out⟩, ⟨by exact bel0⟩⟩
       ·rw [if_neg c11] at H
        exact absurd H (by simp)
      ·rw [if_neg c10] at H; have c10b0 : (((rd_T40 l0_1 x9_1).f1) == 0) = false := beq_eq_false_iff_ne.mpr c10; have c10b1 : (((rd_T40 l0_1 x9_1).f1) != 0) = true := bne_iff_ne.mpr c10
       by_cases c15 : ((rd_T40 l0_1 x9_1).f1) = 1
       ·rw [if_pos c15] at H; have c15b0 : (((rd_T40 l0_1 x9_1).f1) == 1) = true := beq_iff_eq.mpr c15; have c15b1 : (((rd_T40 l0_1 x9_1).f1) != 1) = false := bne_eq_false_iff_eq.mpr c15; clear c15
        by_cases c16 : x3_1.length < 17592186044416
        ·rw [if_pos c16] at H; have LMc16 := Aside0.mk c16; clear c16
         obtain ⟨y473, hy473⟩ : ∃ y_ : List Int, y_ = (x3_1 ++ [(rd_T40 l0_1 x9_1).f0]) := ⟨_, rfl⟩
         replace H : (impl_Table_live.l0 k1 y473 l0_1 (l0_1.length : Int) (wrap64 (x9_1 + 1))) = some r := by first | (rw [hy473]; with_reducible exact H) | (have H2_ := (Option.bind_some _ _).symm.trans H; rw [hy473]; with_reducible exact H2_) | (have H2_ := (Option.bind_some _ _).symm.trans H; with_reducible exact H2_) | with_reducible exact H | (rw [hy473]; exact H) | exact H
         have Ny473 := Aside0.mk hy473; clear hy473
         have H' := Aside0.mk H
         clear H; have hnb17 := NB469_467.out; have hnc17 := NB467_469.out; obtain ⟨hcz18_0, hcz18_1, hcz18_2⟩ := blkz3 BK469.out; have hfz18_0 := blkf BK469.out
         go_wp2_with (first | ((with_reducible refine gate_builtin (b := .append) (xs := #[.tmp 21, .tmp 24]) rfl ?_); at_builtin; refine Kd.R_append (Kd.int .i64) (w0 := w) w.heap.size rfl (.tmp 21) (.tmp 24) 23 3 (.int .i64 0) 8 rfl Try.underlying23 info3 rfl (by decide) (by omega) u3 x3_1 ((rd_T40 l0_1 x9_1).f0) [.int .i64 ((rd_T40 l0_1 x9_1).f0)] (fun _ => True) (fun _ => False) rfl (by first | (go_simp; done) | (go_simp; rfl)) ?aP (fun _ hk => hk.elim) ?aF ?aO ?aB ?aS ?aL ?_; (case aP => exact rfl); (case aB => exact (by exact bel0)); (case aF => exact (fun _ _ => trivial)); (case aO => exact (by exact (Kd.R_farN HO_3.out BK469.out))); (case aS => exact (below_size (by exact bel0))); (case aL => have := LMc16.out; omega); intro v474 w19 ho hb hg hat; rw [← Ny473.out] at ho; have n_ := an (blk_grown (blk_kb BK467.out NB467_469.out) hg (Kd.R_ne HO_3.out BK467.out (by decide))) (an (blk_grown (g := gb469) (o := .cells #[.int .i64 ((rd_T40 l0_1 x9_1).f0), .int .i64 ((rd_T40 l0_1 x9_1).f1), .int .i64 ((rd_T40 l0_1 x9_1).f2)] 40 (0, 0)) (by (with_reducible repeat (first | refine blk_drewN ?_ _ | refine blk_drew ?_ | refine blk_alloc ?_ _)); exact blk_fill3 BK469.out) hg (Kd.R_ne HO_3.out BK469.out (by decide))) (an (hb) (an (ho) (trivial)))); clear BK467 BK469 HB HO_3; obtain ⟨BK467, BK469, HB, HO475, -⟩ := n_; clear ho hb hg hat))
         go_roundg k1
         case measure => have := HK1.out; omega
         case rel => exact ⟨(y473), (wrap64 (x9_1 + 1)), (by first | rfl | (simp; done) | (simp [*]; done)), H', ⟨by have := HK1.out; omega⟩, ⟨by exact Kd.R_nw HO475.out⟩, ⟨by exact blk_nw BK467.out⟩, ⟨by exact bel0⟩⟩
        ·rw [if_neg c16] at H
         exact absurd H (by simp)
       ·rw [if_neg c15] at H; have c15b0 : (((rd_T40 l0_1 x9_1).f1) == 1) = false := beq_eq_false_iff_ne.mpr c15; have c15b1 : (((rd_T40 l0_1 x9_1).f1) != 1) = true := bne_iff_ne.mpr c15
        have H' := Aside0.mk H
        clear H; have hnb20 := NB469_467.out; have hnc20 := NB467_469.out; obtain ⟨hcz21_0, hcz21_1, hcz21_2⟩ := blkz3 BK469.out; have hfz21_0 := blkf BK469.out
        go_wp2
        go_roundg k1
        case measure => have := HK1.out; omega
        case rel => exact ⟨(x3_1), (wrap64 (x9_1 + 1)), (by first | rfl | (simp; done) | (simp [*]; done)), H', ⟨by have := HK1.out; omega⟩, ⟨by exact (Kd.R_farN HO_3.out BK469.out)⟩, ⟨by exact blk_kb BK467.out NB467_469.out⟩, ⟨by exact bel0⟩⟩
     ·rw [if_neg c6] at H
      exact absurd H (by simp)
    ·rw [if_neg c5] at H
     exact absurd H (by simp)
   ·rw [if_neg c4] at H
    have c4b0 : decide (x9_1 < (l0_1.length : Int)) = false := decide_eq_false c4
    clear c4; (try simp only [c4b0])
    obtain rfl := Option.some.inj H
    go_wp2
    go_ret
    exact ⟨_, by first | rfl | (simp [errW_none, errW_some] <;> rfl) | (simp [*, errW_none, errW_some] <;> rfl), by exact Kd.R_nw HO_3.out, by exact bel0⟩

/-! ### impl_Live: function 10 -/
def impl_Live.f (k : Nat) (a0_0 : Int) (l0_1 : List (S40)) : Option (List Int) := (impl_TableOk.f k a0_0 l0_1).bind fun t477 => (if t477 = true then ((impl_Table_live.f k a0_0 l0_1).bind fun t478 => (some t478)) else (some ([] : List Int)))
theorem impl_Live.mono : ∀ a0 a1 k, LeO (impl_Live.f k a0 a1) (impl_Live.f (k + 1) a0 a1) := by
 intro a0 a1 k
 unfold impl_Live.f
 repeat' first
   | (with_reducible exact impl_TableOk.mono _ _ _)
   | (with_reducible exact impl_Table_live.mono _ _ _)
   | (with_reducible exact LeO.refl _)
   | (with_reducible exact LeO.none _)
   | (with_reducible refine LeO.ite ?_ ?_)
   | (with_reducible refine LeO.bind ?_ (fun _ => ?_))
   | exact impl_TableOk.mono _ _ _
   | exact impl_Table_live.mono _ _ _
   | exact LeO.none _
   | refine LeO.ite ?_ ?_
   | refine LeO.bind ?_ (fun _ => ?_)
set_option maxHeartbeats 8000000 in
set_option maxRecDepth 100000 in
theorem impl_Live.calls (k : Nat) (a0_0 : Int) (A0_1 : Option Addr) (c0_1 : Nat) (l0_1 : List (S40)) (r : List Int) (w : World) (hr0_1 : Kd.C k40 w A0_1 l0_1.length l0_1) (hc0_1 : l0_1.length ≤ c0_1) (h : impl_Live.f k a0_0 l0_1 = some r) :
  Calls Try.prog 10 #[.agg #[.int .i64 a0_0, .slice A0_1 l0_1.length c0_1]] w fun e w' => ∃ v0_ : Value, e = .returned (v0_) ∧ Kd.R (Kd.int .i64) 3 w' w.heap.size (fun _ => True) v0_ r ∧ Below w.heap.size w w' := by
 have hu28 := Try.underlying28
 have HR0_1 := Aside0.mk hr0_1; have HC0_1 := Aside0.mk hc0_1; clear hr0_1 hc0_1
 have HB := Aside0.mk (Below.refl w.heap.size w)
 have H : ((impl_TableOk.f k a0_0 l0_1).bind fun t477 => (if t477 = true then ((impl_Table_live.f k a0_0 l0_1).bind fun t478 => (some t478)) else (some ([] : List Int)))) = some r := h
 clear h; replace H := Option.bind_eq_some_iff.mp H; obtain ⟨t477, A20, H⟩ := H; have A2 := Aside0.mk A20; clear A20; go_enter Try.func10, Try.ntmps10
 replace H := Aside0.mk H
 go_wp2_with (first | ((with_reducible refine gate_dst (N := 1) rfl ?_); refine box_event ?hg (N := 1) ?hd (cs := #[.int .i64 a0_0, .slice A0_1 l0_1.length c0_1]) (t := 28) ?hr ?_; (case hd => rfl); (case hg => rfl); (case hr => first | (go_simp; done) | (go_simp; rfl)); intro gb476 hg w3 hbox hb; have n_ := an (below_step (by exact bel0) hb) (an (hbox) (an ((by rw [hg]; exact (below_size (by exact bel0)) : w.heap.size ≤ gb476)) (an ((by rw [hg]; exact (below_size (by exact bel0)) : w.heap.size ≤ gb476)) (trivial)))); clear HB; obtain ⟨HB, BK476, GW476, GE476, -⟩ := n_; clear hb hbox hg; obtain ⟨hcz4_0, hcz4_1⟩ := blkz2 BK476.out; have hfz4_0 := blkf BK476.out) | ((with_reducible refine gate_callee (f := 27) rfl ?_); refine goesL_ (some 4) rfl rfl Try.func27 (by kernel_rfl) rfl #[.agg #[.int .i64 a0_0, .slice A0_1 l0_1.length c0_1]] rfl (by (try simp only [List.map_toArray, List.map_cons, List.map_nil]); first | done | rfl | (simp only [List.length_drop, List.length_take]; rfl)) ?_; (with_reducible refine (impl_TableOk.calls k a0_0 _ _ l0_1 t477 _ ?side1 ?side2 A2.out).mono ?_); (case side1 => repeat (first | exact (Kd.C_below HR0_1.out HB.out) | (with_reducible refine Kd.C_alloc ?_ _) | (with_reducible refine Kd.C_drewN ?_ _) | (with_reducible refine Kd.C_drew ?_))); (case side2 => exact HC0_1.out); rintro e w5 ⟨rfl, hb⟩; refine ⟨_, rfl, ?_⟩; have n_ := an (blk_below (blk_nw BK476.out) hb) (an (below_step (by exact bel0) hb) (trivial)); clear BK476 HB; obtain ⟨BK476, HB, -⟩ := n_; (try clear hb); (try clear hb2); (try clear hk); (try clear hi); refine Stop.out ?_))
 refine Stop.mk ?_
 replace H := H.out
 by_cases c6 : t477 = true
 ·subst c6; rw [if_pos rfl] at H; replace H := Option.bind_eq_some_iff.mp H; obtain ⟨t478, A70, H⟩ := H; have A7 := Aside0.mk A70; clear A70
  obtain rfl := Option.some.inj H
  obtain ⟨hcz8_0, hcz8_1⟩ := blkz2 BK476.out; have hfz8_0 := blkf BK476.out
  go_wp2_with (first | ((with_reducible refine gate_callee (f := 28) rfl ?_); refine goesL_ (some 7) rfl rfl Try.func28 (by kernel_rfl) rfl #[.agg #[.int .i64 a0_0, .slice A0_1 l0_1.length c0_1]] rfl (by (try simp only [List.map_toArray, List.map_cons, List.map_nil]); first | done | rfl | (simp only [List.length_drop, List.length_take]; rfl)) ?_; (with_reducible refine (impl_Table_live.calls k a0_0 _ _ l0_1 t478 _ ?side1 ?side2 A7.out).mono ?_); (case side1 => repeat (first | exact (Kd.C_below HR0_1.out HB.out) | (with_reducible refine Kd.C_alloc ?_ _) | (with_reducible refine Kd.C_drewN ?_ _) | (with_reducible refine Kd.C_drew ?_))); (case side2 => exact HC0_1.out); rintro e w9 ⟨v479, rfl, ho0, hb⟩; refine ⟨_, rfl, ?_⟩; have n_ := an (Kd.R_lower ho0 (below_size (by exact bel0))) (an (blk_below (blk_nw BK476.out) hb) (an (below_step (by exact bel0) hb) (trivial))); clear BK476 HB; obtain ⟨HO480, BK476, HB, -⟩ := n_; (try clear hb); (try clear hb2); (try clear hk); (try clear hi); (try clear ho0)))
  go_ret
  exact ⟨_, by first | rfl | (simp [errW_none, errW_some] <;> rfl) | (simp [*, errW_none, errW_some] <;> rfl), by exact Kd.R_nw HO480.out, by exact bel0⟩
 ·replace c6 := Bool.eq_false_iff.mpr c6
  subst c6
  rw [if_neg (show ¬ (false = true) by decide)] at H
  obtain rfl := Option.some.inj H
  go_wp2
  go_ret
  exact ⟨_, by first | rfl | (simp [errW_none, errW_some] <;> rfl) | (simp [*, errW_none, errW_some] <;> rfl), by first | exact Kd.R_nil _ _ _ _ _ | exact Kd.N_nil _ _ _ _ _ | exact Kd.V_nil _ _ _ _ _ | exact Kd.Q_nil _ _ _ _ _ | exact Kd.S_nil _ _ _ _ _, by exact bel0⟩

/-! ### slices_Clone_int_int: function 41 -/
def slices_Clone_int_int.f (l0 : List Int) : Option (List Int) := if l0.length < 17592186044416 then (some l0) else (none)
set_option maxHeartbeats 8000000 in
set_option maxRecDepth 100000 in
theorem slices_Clone_int_int.calls (A0 : Option Addr) (c0 : Nat) (l0 : List Int) (r : List Int) (w : World) (hr0 : Kd.C (Kd.int .i64) w A0 l0.length l0) (hc0 : l0.length ≤ c0) (h : slices_Clone_int_int.f l0 = some r) :
  Calls Try.prog 41 #[.slice A0 l0.length c0] w fun e w' => ∃ v0_ : Value, e = .returned (v0_) ∧ Kd.R (Kd.int .i64) 3 w' w.heap.size (fun _ => True) v0_ r ∧ Below w.heap.size w w' := by
 have HR0 := Aside0.mk hr0; have HC0 := Aside0.mk hc0; clear hr0 hc0
 have HB := Aside0.mk (Below.refl w.heap.size w)
 have hq := fun wx => Lib.run_eql_slice_nil (P := Try.prog) wx 23 3 A0 l0.length c0 0 0 Try.underlying23
 unfold slices_Clone_int_int.f at h
 by_cases hl : l0.length < 17592186044416
 ·rw [if_pos hl] at h
  obtain rfl := Option.some.inj h
  have HL := Aside0.mk hl; clear hl h
  cases A0 with
  | none =>
   have hz : l0 = [] := by
    rcases Nat.eq_zero_or_pos l0.length with h0 | h0
    ·exact List.eq_nil_of_length_eq_zero h0
    ·obtain ⟨ad, he, _⟩ := HR0.out.2.2 h0
     cases he
   subst hz; clear hq
   have hq0 := fun wx => Lib.run_eql_slice_nil (P := Try.prog) wx 23 3 none 0 c0 0 0 Try.underlying23
   simp only [List.length_nil, Option.isNone_none] at hq0 ⊢
   go_enter Try.func41, Try.ntmps41
   go_wp2
   go_ret
   exact ⟨_, rfl, Kd.R_nil _ _ _ _ _, HB.out⟩
  | some ad =>
   go_enter Try.func41, Try.ntmps41
   go_wp2_with (first | ((with_reducible refine gate_dst (N := 5) rfl ?_); refine Kd.R_lit (Kd.int .i64) _ 3 ?hg (N := 5) ?hd (xs := ([] : List Int)) (inner := []) (ok := fun _ => True) (okp := fun _ => True) ?hr ?hp (fun _ hk => hk) trivial (Below.refl _ _) (Nat.le_refl _) (by simp) ?_; (case hd => rfl); (case hg => rfl); (case hr => first | (go_simp; done) | (go_simp; rfl)); (case hp => exact (Reps.none _ _)); intro v1 w1 ho1 hb hg_ hnew_; clear hg_ hnew_; have HO := Aside0.mk (Kd.R_lower ho1 (below_size HB.out)); replace HB := Aside0.mk (below_step HB.out hb); clear hb ho1) | ((with_reducible refine gate_builtin (b := .append) (xs := #[.tmp 5, .tmp 6]) rfl ?_); at_builtin; refine Kd.R_append_rows (Kd.int .i64) (w0 := w) w.heap.size rfl (.tmp 5) (.tmp 6) 23 3 (.int .i64 0) 8 rfl Try.underlying23 info3 rfl (by decide) (by omega) v1 [] l0 _ _ _ (fun _ => True) (fun _ => False) rfl rfl ?aO ?aR (fun _ _ h => h) (fun _ h => h.elim) ?aF ?aB ?aS ?aL ?_; (case aR => exact Kd.C_below HR0.out HB.out); (case aB => exact HB.out); (case aF => exact (fun _ _ => trivial)); (case aO => exact HO.out); (case aS => exact below_size HB.out); (case aL => have := HL.out; simp only [List.length_nil]; omega); intro v2 w2 ho hb hg hat; rw [List.nil_append] at ho; clear HB HO; have HB := Aside0.mk hb; have HO := Aside0.mk ho; clear ho hb hg hat))
   go_ret
   exact ⟨_, rfl, HO.out, HB.out⟩
 ·rw [if_neg hl] at h
  exact absurd h (by simp)

/-! ### impl_Prober_own: function 29 -/
def impl_Prober_own.f (l0_0 : List Int) (a0_1 : Int) (a0_2 : Int) (a0_3 : Int) (a0_4 : Int) (a0_5 : Int) : Option (List Int × Int × Int × Int × Int × Int) := (slices_Clone_int_int.f l0_0).bind fun t483 => (some (t483, a0_1, a0_2, a0_3, a0_4, a0_5))
set_option maxHeartbeats 8000000 in
set_option maxRecDepth 100000 in
theorem impl_Prober_own.calls (A0_0 : Option Addr) (c0_0 : Nat) (l0_0 : List Int) (a0_1 : Int) (a0_2 : Int) (a0_3 : Int) (a0_4 : Int) (a0_5 : Int) (r1 : List Int) (r2 : Int) (r3 : Int) (r4 : Int) (r5 : Int) (r6 : Int) (w : World) (hr0_0 : Kd.C (Kd.int .i64) w A0_0 l0_0.length l0_0) (hc0_0 : l0_0.length ≤ c0_0) (h : impl_Prober_own.f l0_0 a0_1 a0_2 a0_3 a0_4 a0_5 = some (r1, r2, r3, r4, r5, r6)) :
  Calls Try.prog 29 #[.agg #[.slice A0_0 l0_0.length c0_0, .int .i64 a0_1, .int .i64 a0_2, .int .i64 a0_3, .int .i64 a0_4, .int .i64 a0_5]] w fun e w' => ∃ v0_ : Value, e = .returned (.agg #[v0_, .int .i64 r2, .int .i64 r3, .int .i64 r4, .int .i64 r5, .int .i64 r6]) ∧ Kd.R (Kd.int .i64) 3 w' w.heap.size (fun _ => True) v0_ r1 ∧ Below w.heap.size w w' := by
 have hu25 := Try.underlying25
 have HR0_0 := Aside0.mk hr0_0; have HC0_0 := Aside0.mk hc0_0; clear hr0_0 hc0_0
 have HB := Aside0.mk (Below.refl w.heap.size w)
 have H : ((slices_Clone_int_int.f l0_0).bind fun t483 => (some (t483, a0_1, a0_2, a0_3, a0_4, a0_5))) = some (r1, r2, r3, r4, r5, r6) := h
 clear h; replace H := Option.bind_eq_some_iff.mp H; obtain ⟨t483, A20, H⟩ := H; have A2 := Aside0.mk A20; clear A20; simp only [Option.some.injEq, Prod.mk.injEq] at H; obtain ⟨rfl, rfl, rfl, rfl, rfl, rfl⟩ := H; go_enter Try.func29, Try.ntmps29
 go_wp2_with (first | ((with_reducible refine gate_dst (N := 1) rfl ?_); refine box_event ?hg (N := 1) ?hd (cs := #[.slice A0_0 l0_0.length c0_0, .int .i64 a0_1, .int .i64 a0_2, .int .i64 a0_3, .int .i64 a0_4, .int .i64 a0_5]) (t := 25) ?hr ?_; (case hd => rfl); (case hg => rfl); (case hr => first | (go_simp; done) | (go_simp; rfl)); intro gb481 hg w3 hbox hb; have n_ := an (below_step (by exact bel0) hb) (an (hbox) (an ((by rw [hg]; exact (below_size (by exact bel0)) : w.heap.size ≤ gb481)) (an ((by rw [hg]; exact (below_size (by exact bel0)) : w.heap.size ≤ gb481)) (trivial)))); clear HB; obtain ⟨HB, BK481, GW481, GE481, -⟩ := n_; clear hb hbox hg) | ((with_reducible refine gate_dst (N := 2) rfl ?_); refine box_event ?hg (N := 2) ?hd (cs := #[.slice none 0 0, .int .i64 0, .int .i64 0, .int .i64 0, .int .i64 0, .int .i64 0]) (t := 25) ?hr ?_; (case hd => rfl); (case hg => rfl); (case hr => first | (go_simp; done) | (go_simp; rfl)); intro gb482 hg w4 hbox hb; have n_ := an (blk_below (blk_nw BK481.out) hb) (an (below_step (by exact bel0) hb) (an (hbox) (an ((by rw [hg]; exact (below_size (by exact bel0)) : w.heap.size ≤ gb482)) (an ((by rw [hg]; exact (below_size (by exact bel0)) : w.heap.size ≤ gb482)) (an ((by rw [hg]; exact Nat.ne_of_lt (blk_lt (blk_nw BK481.out)) : gb481 ≠ gb482)) (an ((by rw [hg]; exact Nat.ne_of_gt (blk_lt (blk_nw BK481.out)) : gb482 ≠ gb481)) (trivial))))))); clear BK481 HB; obtain ⟨BK481, HB, BK482, GW482, GE482, NB481_482, NB482_481, -⟩ := n_; clear hb hbox hg; have hnb5 := NB481_482.out; have hnc5 := NB482_481.out; obtain ⟨hcz6_0, hcz6_1, hcz6_2, hcz6_3, hcz6_4, hcz6_5⟩ := blkz6 BK481.out; have hfz6_0 := blkf BK481.out) | ((with_reducible refine gate_callee (f := 41) rfl ?_); refine goesL_ (some 5) rfl rfl Try.func41 (by kernel_rfl) rfl #[.slice A0_0 l0_0.length c0_0] rfl (by (try simp only [List.map_toArray, List.map_cons, List.map_nil]); first | done | rfl | (simp only [List.length_drop, List.length_take]; rfl)) ?_; (with_reducible refine (slices_Clone_int_int.calls _ _ l0_0 t483 _ ?side1 ?side2 A2.out).mono ?_); (case side1 => repeat (first | exact (Kd.C_below HR0_0.out HB.out) | (with_reducible refine Kd.C_alloc ?_ _) | (with_reducible refine Kd.C_drewN ?_ _) | (with_reducible refine Kd.C_drew ?_))); (case side2 => exact HC0_0.out); rintro e w7 ⟨v484, rfl, ho0, hb⟩; refine ⟨_, rfl, ?_⟩; have n_ := an (Kd.R_lower ho0 (below_size (by exact bel0))) (an (blk_below (blk_nw BK481.out) hb) (an (blk_below (blk_nw BK482.out) hb) (an (below_step (by exact bel0) hb) (trivial)))); clear BK481 BK482 HB; obtain ⟨HO485, BK481, BK482, HB, -⟩ := n_; (try clear hb); (try clear hb2); (try clear hk); (try clear hi); (try clear ho0); obtain ⟨Ao8, co8, eo8⟩ := Kd.R_slice HO485.out; subst eo8; obtain ⟨hcz9_0, hcz9_1, hcz9_2, hcz9_3, hcz9_4, hcz9_5⟩ := blkz6 BK481.out; have hfz9_0 := blkf BK481.out; obtain ⟨hcz10_0, hcz10_1, hcz10_2, hcz10_3, hcz10_4, hcz10_5⟩ := blkz6 BK482.out; have hfz10_0 := blkf BK482.out))
 refine bodyPost_ret (results_cell_row rfl _ _ gb482 25 #[.slice Ao8 t483.length co8, .int .i64 a0_1, .int .i64 a0_2, .int .i64 a0_3, .int .i64 a0_4, .int .i64 a0_5] (0, 0) _ rfl (by (with_reducible repeat (first | refine blk_drewN ?_ _ | refine blk_drew ?_ | refine blk_alloc ?_ _)); refine blk_put (cs := #[.slice Ao8 t483.length co8, .int .i64 a0_1, .int .i64 a0_2, .int .i64 a0_3, .int .i64 a0_4, .int .i64 0]) ?_ 5 _ rfl; (with_reducible repeat (first | refine blk_drewN ?_ _ | refine blk_drew ?_ | refine blk_alloc ?_ _)); refine blk_put (cs := #[.slice Ao8 t483.length co8, .int .i64 a0_1, .int .i64 a0_2, .int .i64 a0_3, .int .i64 0, .int .i64 0]) ?_ 4 _ rfl; (with_reducible repeat (first | refine blk_drewN ?_ _ | refine blk_drew ?_ | refine blk_alloc ?_ _)); refine blk_put (cs := #[.slice Ao8 t483.length co8, .int .i64 a0_1, .int .i64 a0_2, .int .i64 0, .int .i64 0, .int .i64 0]) ?_ 3 _ rfl; (with_reducible repeat (first | refine blk_drewN ?_ _ | refine blk_drew ?_ | refine blk_alloc ?_ _)); refine blk_put (cs := #[.slice Ao8 t483.length co8, .int .i64 a0_1, .int .i64 0, .int .i64 0, .int .i64 0, .int .i64 0]) ?_ 2 _ rfl; (with_reducible repeat (first | refine blk_drewN ?_ _ | refine blk_drew ?_ | refine blk_alloc ?_ _)); refine blk_put (cs := #[.slice Ao8 t483.length co8, .int .i64 0, .int .i64 0, .int .i64 0, .int .i64 0, .int .i64 0]) ?_ 1 _ rfl; (with_reducible repeat (first | refine blk_drewN ?_ _ | refine blk_drew ?_ | refine blk_alloc ?_ _)); refine blk_put (cs := #[.slice none 0 0, .int .i64 0, .int .i64 0, .int .i64 0, .int .i64 0, .int .i64 0]) ?_ 0 _ rfl; (with_reducible repeat (first | refine blk_drewN ?_ _ | refine blk_drew ?_ | refine blk_alloc ?_ _)); refine blk_far ?_ NB482_481.out _; (with_reducible repeat (first | refine blk_drewN ?_ _ | refine blk_drew ?_ | refine blk_alloc ?_ _)); exact BK482.out) Try.underlying25 rfl (by kernel_rfl)) rfl ?_
 exact ⟨_, by first | rfl | (simp [errW_none, errW_some] <;> rfl) | (simp [*, errW_none, errW_some] <;> rfl), by (with_reducible repeat (first | apply Kd.R_alloc | apply Kd.R_drewN | apply Kd.R_drew)); exact Kd.R_mono (Kd.R_far (p := ⟨gb482, 5, none⟩) (Kd.R_far (p := ⟨gb482, 4, none⟩) (Kd.R_far (p := ⟨gb482, 3, none⟩) (Kd.R_far (p := ⟨gb482, 2, none⟩) (Kd.R_far (p := ⟨gb482, 1, none⟩) (Kd.R_far (p := ⟨gb482, 0, none⟩) (Kd.R_far (p := ⟨gb481, 0, none⟩) (Kd.R_types (Kd.R_types HO485.out BK481.out (by decide)) BK482.out (by decide)) (fun _ hk => hk.1.2) (.slice Ao8 t483.length co8)) (fun _ hk => hk.2) (.slice Ao8 t483.length co8)) (fun _ hk => hk.2) (.int .i64 a0_1)) (fun _ hk => hk.2) (.int .i64 a0_2)) (fun _ hk => hk.2) (.int .i64 a0_3)) (fun _ hk => hk.2) (.int .i64 a0_4)) (fun _ hk => hk.2) (.int .i64 a0_5)) (fun _ hk => trivial), by exact bel0⟩

-- NOT PRINTED: function 61 (slices_IndexFunc_int_int)

-- NOT PRINTED: function 52 (slices_DeleteFunc_int_int)

/-! ### impl_Table_others: function 42 -/
def impl_Table_others_c.p (s b x : Int) : Bool := x == s || x == b
set_option maxHeartbeats 8000000 in
set_option maxRecDepth 100000 in
theorem impl_Table_others_c.clo (s b : Int) (cs : Value) (x : Int) (g0_ g1_ : Nat) (w : World) (q0_ : w.heap[g0_]? = some (.cells #[.int .i64 s, cs] 28 (0, 0))) (q1_ : w.heap[g1_]? = some (.cells #[.int .i64 b] 3 (0, 0))) :
  Calls Try.prog 53 #[.int .i64 x, .pointer (some ⟨g0_, 0, none⟩), .pointer (some ⟨g1_, 0, none⟩)] w fun e w' => e = .returned (.bool (impl_Table_others_c.p s b x)) ∧ Below w.heap.size w w' := by
 have hu28 := Try.underlying28
 have hct := (blkz2 q0_).1
 have hcb := blkz1 q1_
 cases h1 : x == s with
 | true =>
  have hd : decide (x = s) = true := by simpa using h1
  go_enter Try.func53, Try.ntmps53
  go_wp2
  go_ret
  exact ⟨by simp [impl_Table_others_c.p, h1], Below.refl _ _⟩
 | false =>
  have hd : decide (x = s) = false := by simpa using h1
  go_enter Try.func53, Try.ntmps53
  go_wp2
  go_ret
  exact ⟨by simp [impl_Table_others_c.p, h1], Below.refl _ _⟩
set_option maxHeartbeats 8000000 in
set_option maxRecDepth 100000 in
theorem impl_Table_others_c.idx (s b : Int) (cs : Value) (g0_ g1_ : Nat) (A0 : Option Addr) (c0 : Nat) (l0 : List (Int)) (w : World) (hr0 : Kd.C (Kd.int .i64) w A0 l0.length l0) (hc0 : l0.length ≤ c0) (hl : l0.length < 9223372036854775807) (q0_ : w.heap[g0_]? = some (.cells #[.int .i64 s, cs] 28 (0, 0))) (q1_ : w.heap[g1_]? = some (.cells #[.int .i64 b] 3 (0, 0))) :
  Calls Try.prog 61 #[.slice A0 l0.length c0, .func (.func 53) #[] #[.pointer (some ⟨g0_, 0, none⟩), .pointer (some ⟨g1_, 0, none⟩)]] w fun e w' => e = .returned (.int .i64 (ixOf (impl_Table_others_c.p s b) l0 0)) ∧ Below w.heap.size w w' := by
 have HR0 := Aside0.mk hr0
 have HQ0 := Aside0.mk (fun (W : World) (h : Below w.heap.size w W) => (h.block g0_ (blk_lt q0_)).trans q0_)
 have HQ1 := Aside0.mk (fun (W : World) (h : Below w.heap.size w W) => (h.block g1_ (blk_lt q1_)).trans q1_)
 have HB0 := Aside0.mk (Below.refl w.heap.size w)
 have HH := Aside0.mk (show ixOf (impl_Table_others_c.p s b) l0 0 = ixOf (impl_Table_others_c.p s b) (l0.drop 0) 0 by rw [List.drop_zero])
 clear hr0 hc0 q0_ q1_; go_enter Try.func61, Try.ntmps61
 go_wp2
 go_loopg [8] (l0.length + 1) (fun kx s8 wr => ∃ i : Nat, s8 = .int .i64 i ∧ i ≤ l0.length ∧ Aside0 (l0.length < kx + i) ∧ Aside0 (ixOf (impl_Table_others_c.p s b) l0 0 = ixOf (impl_Table_others_c.p s b) (l0.drop i) i) ∧ Aside0 (Below w.heap.size w wr))
 case atStart => exact ⟨0, rfl, Nat.zero_le _, ⟨by omega⟩, HH, HB0⟩
 case round =>
  clear HH HB0
  obtain ⟨i, rfl, hi, HK, HX, HB⟩ := hrel
  cases gk with
  | zero => exact absurd HK.out (by omega)
  | succ k1 =>
   by_cases hlt : i < l0.length
   ·obtain ⟨ad, ead, hx0⟩ := Kd.at_int HR0.out (i : Int) (by omega) (by omega)
    cases ead
    replace hx0 := pw_cell_below HB.out hx0
    rw [Int.toNat_natCast] at hx0
    cases he : impl_Table_others_c.p s b (rd l0 (i : Int)) with
    | true =>
     have HE := Aside0.mk (HX.out.trans (ixOf_at (impl_Table_others_c.p s b) l0 i i hlt (by rw [← rd_get hlt]; exact he)))
     go_wp2_with (go_at_call 53; refine (impl_Table_others_c.clo s b cs _ g0_ g1_ _ ?sd0 ?sd1).mono ?_; (case sd0 => exact HQ0.out _ HB.out); (case sd1 => exact HQ1.out _ HB.out); rintro e w2 ⟨rfl, hb2⟩)
     go_ret
     exact ⟨by rw [HE.out]; rfl, below_step HB.out hb2⟩
    | false =>
     have HE := Aside0.mk (HX.out.trans (ixOf_next (impl_Table_others_c.p s b) l0 i i hlt (by rw [← rd_get hlt]; exact he)))
     go_wp2_with (go_at_call 53; refine (impl_Table_others_c.clo s b cs _ g0_ g1_ _ ?sd0 ?sd1).mono ?_; (case sd0 => exact HQ0.out _ HB.out); (case sd1 => exact HQ1.out _ HB.out); rintro e w2 ⟨rfl, hb2⟩)
     go_roundg k1
     case measure => omega
     case rel => exact ⟨i + 1, by go_num, by omega, ⟨by have := HK.out; omega⟩, HE, ⟨below_step HB.out hb2⟩⟩
   ·have HE := Aside0.mk (HX.out.trans (by rw [List.drop_eq_nil_of_le (by omega)]; rfl : ixOf (impl_Table_others_c.p s b) (l0.drop i) i = -1))
    go_wp2
    go_ret
    exact ⟨by rw [HE.out]; rfl, HB.out⟩
theorem impl_Table_others_c.zero : ∀ w, (zeroValue 3).run Try.prog w = .ok (.int .i64 0) w := by intro w; kernel_rfl
set_option maxHeartbeats 8000000 in
set_option maxRecDepth 100000 in
theorem impl_Table_others_c.del (s b : Int) (cs : Value) (g0_ g1_ : Nat) (ok : Nat → Prop) (u : Value) (l0 : List Int) (w0 w : World) (hB : Below w0.heap.size w0 w) (ho : Kd.R (Kd.int .i64) 3 w w0.heap.size ok u l0) (hl : l0.length < 4611686018427387904) (q0_ : w0.heap[g0_]? = some (.cells #[.int .i64 s, cs] 28 (0, 0))) (q1_ : w0.heap[g1_]? = some (.cells #[.int .i64 b] 3 (0, 0))) :
  Calls Try.prog 52 #[u, .func (.func 53) #[] #[.pointer (some ⟨g0_, 0, none⟩), .pointer (some ⟨g1_, 0, none⟩)]] w fun e w' => ∃ v : Value, e = .returned v ∧ Kd.R (Kd.int .i64) 3 w' w0.heap.size ok v (l0.filter fun x => !impl_Table_others_c.p s b x) ∧ Below w0.heap.size w0 w' := by
 have HB := Aside0.mk hB
 have HQ0 := Aside0.mk (fun (W : World) (h : Below w0.heap.size w0 W) => (h.block g0_ (blk_lt q0_)).trans q0_)
 have HQ1 := Aside0.mk (fun (W : World) (h : Below w0.heap.size w0 W) => (h.block g1_ (blk_lt q1_)).trans q1_)
 clear hB q0_ q1_
 rcases ixOf_spec (impl_Table_others_c.p s b) l0 0 with ⟨e1, _, hall⟩ | ⟨k0, hk0, e1, hat, _, hpre⟩
 ·have HO := Aside0.mk ho
  obtain ⟨A, c, rfl⟩ := Kd.R_slice ho
  have HE := Aside0.mk e1; have HA := Aside0.mk hall; clear ho e1 hall; go_enter Try.func52, Try.ntmps52
  go_wp2_with (go_at_call 61; refine (impl_Table_others_c.idx s b cs g0_ g1_ _ _ l0 _ ?s1 ?s2 (by omega) ?sd0 ?sd1).mono ?_; (case s1 => exact (Kd.R_reads' HO.out).2.2); (case s2 => exact (Kd.R_reads' HO.out).2.1); (case sd0 => exact HQ0.out _ HB.out); (case sd1 => exact HQ1.out _ HB.out); rw [HE.out]; rintro e w2 ⟨rfl, hb2⟩)
  go_ret
  exact ⟨_, rfl, by rw [HA.out]; exact Kd.R_below HO.out hb2, below_step HB.out hb2⟩
 ·obtain ⟨g, cap, rfl, hgb, hgl, hcl⟩ := Kd.R_form ho (by omega)
  have HO := Aside0.mk ho; have HGb := Aside0.mk hgb; have HE := Aside0.mk e1; have HA := Aside0.mk hpre; have HP := Aside0.mk hat
  have hn1 : ((k0 : Int) == -1) = false := beq_eq_false_iff_ne.2 (by omega)
  have hcap := (Kd.R_reads' ho).2.1
  clear ho e1 hpre hat hgb hgl hcl; go_enter Try.func52, Try.ntmps52
  go_wp2_with (go_at_call 61; refine (impl_Table_others_c.idx s b cs g0_ g1_ _ _ l0 _ ?s1 ?s2 (by omega) ?sd0 ?sd1).mono ?_; (case s1 => exact (Kd.R_reads' HO.out).2.2); (case s2 => exact (Kd.R_reads' HO.out).2.1); (case sd0 => exact HQ0.out _ HB.out); (case sd1 => exact HQ1.out _ HB.out); rw [HE.out, Nat.zero_add]; rintro e w2 ⟨rfl, hb2⟩; have HO2 := Aside0.mk (Kd.R_below HO.out hb2); have HB2 := Aside0.mk (below_step HB.out hb2); clear HO HB hb2)
  go_loopg [5, 6] (l0.length + 1) (fun kx s5 s6 wr => ∃ (i j : Nat) (xs : List Int), s5 = .int .i64 i ∧ s6 = .int .i64 j ∧ i < j ∧ j ≤ l0.length ∧ xs.length = l0.length ∧ Aside0 (l0.length < kx + j) ∧ Aside0 (xs.take i = (l0.take j).filter (fun x => !impl_Table_others_c.p s b x)) ∧ Aside0 (xs.drop j = l0.drop j) ∧ Aside0 (Kd.R (Kd.int .i64) 3 wr w0.heap.size ok (.slice (some ⟨g, 0, none⟩) l0.length cap) xs) ∧ Aside0 (Below w0.heap.size w0 wr))
  case atStart =>
   refine ⟨k0, k0 + 1, l0, by first | rfl | go_num, by go_num, by omega, by omega, rfl, ⟨by omega⟩, ⟨?_⟩, ⟨rfl⟩, HO2, HB2⟩
   have hp := HP.out
   rw [List.take_succ_eq_append_getElem hk0, List.filter_append, HA.out]
   simp [hp]
  case round =>
   clear HO2 HB2
   obtain ⟨i, j, xs, rfl, rfl, hij, hj, hlen, HK, HI, HD, HO, HB⟩ := hrel
   cases gk with
   | zero => exact absurd HK.out (by omega)
   | succ k1 =>
    by_cases hlt : j < l0.length
    ·have hltz : (j : Int) < (l0.length : Int) := by omega
     have hxj : rd xs (j : Int) = rd l0 (j : Int) := by
      rw [rd_get (by omega), rd_get hlt]
      have h1 := HD.out
      rw [List.drop_eq_getElem_cons (by omega), List.drop_eq_getElem_cons hlt] at h1
      exact (List.cons.inj h1).1
     obtain ⟨cj, _⟩ := Kd.R_celln 0 HO.out (j : Int) (by omega) (by omega)
     obtain ⟨ci, fi⟩ := Kd.R_celln 0 HO.out (i : Int) (by omega) (by omega)
     rw [Int.toNat_natCast] at cj ci fi
     replace cj : wr.cell? ⟨g, j, none⟩ = some (.int .i64 (rd l0 (j : Int))) := by rw [← hxj]; exact cj
     have HX := Aside0.mk hxj; have HL := Aside0.mk hlen; clear hxj hlen
     generalize hold : rdOf (0 : Int) xs (i : Int) = old at ci
     clear hold
     cases he : impl_Table_others_c.p s b (rd l0 (j : Int)) with
     | true =>
      go_wp2_with (go_at_call 53; refine (impl_Table_others_c.clo s b cs _ g0_ g1_ _ ?sd0 ?sd1).mono ?_; (case sd0 => exact HQ0.out _ HB.out); (case sd1 => exact HQ1.out _ HB.out); rintro e w2 ⟨rfl, hb2⟩)
      go_roundg k1
      case measure => omega
      case rel =>
       refine ⟨i, j + 1, xs, rfl, by go_num, by omega, by omega, HL.out, ⟨by have := HK.out; omega⟩, ⟨?_⟩, ⟨?_⟩, ⟨Kd.R_below HO.out hb2⟩, ⟨below_step HB.out hb2⟩⟩
       ·rw [HI.out, List.take_succ_eq_append_getElem hlt, List.filter_append]
        rw [rd_get hlt] at he
        simp [he]
       ·have h1 := congrArg (List.drop 1) HD.out
        simpa [List.drop_drop, Nat.add_comm] using h1
     | false =>
      go_wp2_with (go_at_call 53; refine (impl_Table_others_c.clo s b cs _ g0_ g1_ _ ?sd0 ?sd1).mono ?_; (case sd0 => exact HQ0.out _ HB.out); (case sd1 => exact HQ1.out _ HB.out); rintro e w2 ⟨rfl, hb2⟩; have ci2 := pw_cell_below hb2 ci; have fi2 := (hb2.frozen (p := ⟨g, i, none⟩) (World.block_lt_of_cell? wr _ ci)).trans fi)
      go_roundg k1
      case measure => omega
      case rel =>
       have hR := Kd.R_putn (Kd.R_below HO.out hb2) (i : Int) (rd l0 (j : Int))
       rw [Int.toNat_natCast] at hR
       refine ⟨i + 1, j + 1, xs.set i (rd l0 (j : Int)), by go_num, by go_num, by omega, by omega, by rw [List.length_set]; exact HL.out, ⟨by have := HK.out; omega⟩, ⟨?_⟩, ⟨?_⟩, ⟨hR⟩, ⟨below_set (below_step HB.out hb2) HGb.out⟩⟩
       ·have hxl := HL.out
        rw [List.take_succ_eq_append_getElem (by rw [List.length_set]; omega), List.take_set_of_le (Nat.le_refl _), HI.out, List.getElem_set_self, List.take_succ_eq_append_getElem hlt, List.filter_append]
        rw [rd_get hlt] at he ⊢
        simp [he]
       ·have h1 := congrArg (List.drop 1) HD.out
        rw [List.drop_set_of_lt (by omega)]
        simpa [List.drop_drop, Nat.add_comm] using h1
    ·obtain rfl : j = l0.length := by omega
     have hltz : ¬ (l0.length : Int) < (l0.length : Int) := by omega
     have hcl : ∀ ty, (Builtin.clear_ #[23] ty #[.slice (some ⟨g, i, none⟩) (l0.length - i) (cap - i)]).run Try.prog wr = .ok (.tuple #[]) (wr.setCells g i (List.replicate (l0.length - i) (.int .i64 0))) :=
      fun ty => Lib.run_clear_slice wr _ 3 ty _ Try.underlying23 impl_Table_others_c.zero rfl rfl g i _ _ (by omega) (fun t ht => by
       have h1 := (Kd.R_celln 0 HO.out ((i + t : Nat) : Int) (by omega) (by omega)).1
       rw [Int.toNat_natCast] at h1
       rw [h1]; rfl) (fun t ht => by
       have h1 := (Kd.R_celln 0 HO.out ((i + t : Nat) : Int) (by omega) (by omega)).2
       rw [Int.toNat_natCast] at h1
       exact h1)
     have HL := Aside0.mk hlen
     obtain ⟨ys, hyl, hyt, hyr⟩ := R_clear (z := (0 : Int)) (l0.length - i) i wr xs (by omega) HO.out
     have HY := Aside0.mk hyr; have HYT := Aside0.mk hyt; have HYL := Aside0.mk hyl; clear hlen hyl hyt hyr
     go_wp2
     go_ret
     have hfin := Kd.R_take (m := i) HY.out (by rw [HYL.out, HL.out]; omega)
     rw [HYT.out, HI.out, List.take_length] at hfin
     exact ⟨_, rfl, hfin, below_setCells HGb.out _ _ _ HB.out⟩

def impl_Table_others.f (k : Nat) (a0_0 : Int) (l0_1 : List S40) (a1 : Int) : Option (List Int) := (impl_Table_live.f k a0_0 l0_1).bind fun y => (if y.length < 4611686018427387904 then (some (y.filter fun x => !impl_Table_others_c.p a0_0 a1 x)) else none)
theorem impl_Table_others.mono : ∀ a0 a1 a2 k, LeO (impl_Table_others.f k a0 a1 a2) (impl_Table_others.f (k + 1) a0 a1 a2) := by
 intro a0 a1 a2 k
 unfold impl_Table_others.f
 exact LeO.bind (impl_Table_live.mono _ _ _) (fun _ => LeO.refl _)
set_option maxHeartbeats 8000000 in
set_option maxRecDepth 100000 in
theorem impl_Table_others.calls (k : Nat) (a0_0 : Int) (A0_1 : Option Addr) (c0_1 : Nat) (l0_1 : List S40) (a1 : Int) (r : List Int) (w : World) (hr0_1 : Kd.C k40 w A0_1 l0_1.length l0_1) (hc0_1 : l0_1.length ≤ c0_1) (h : impl_Table_others.f k a0_0 l0_1 a1 = some r) :
  Calls Try.prog 42 #[.agg #[.int .i64 a0_0, .slice A0_1 l0_1.length c0_1], .int .i64 a1] w fun e w' => ∃ v0_ : Value, e = .returned (v0_) ∧ Kd.R (Kd.int .i64) 3 w' w.heap.size (fun _ => True) v0_ r ∧ Below w.heap.size w w' := by
 have hu28 := Try.underlying28
 unfold impl_Table_others.f at h
 obtain ⟨y, h1, h⟩ := Option.bind_eq_some_iff.mp h
 have HR := Aside0.mk hr0_1; have HC := Aside0.mk hc0_1; have HV := Aside0.mk h1; clear hr0_1 hc0_1 h1
 by_cases hl : y.length < 4611686018427387904
 ·rw [if_pos hl] at h
  obtain rfl := Option.some.inj h
  have HL := Aside0.mk hl; clear hl h; go_enter Try.func42, Try.ntmps42
  go_wp2_with (first | (go_at_call 28; refine (impl_Table_live.calls k a0_0 _ _ l0_1 y _ ?s1 HC.out HV.out).mono ?_; (case s1 => repeat (first | exact HR.out | (with_reducible refine Kd.C_alloc ?_ _))); rintro e w2 ⟨v1, rfl, ho, hb⟩; have HO := Aside0.mk ho; have HB := Aside0.mk hb; clear ho hb) | (go_at_call 52; refine (impl_Table_others_c.del a0_0 a1 (.slice A0_1 l0_1.length c0_1) w.heap.size (w.heap.size + 1) (fun _ => True) _ y _ _ HB.out HO.out HL.out ?t1 ?t2).mono ?_; (case t1 => refine blk_alloc ?_ _; exact heap_alloc_at _ _ _ rfl); (case t2 => exact heap_alloc_at _ _ _ (by simp)); rintro e w3 ⟨v2, rfl, ho2, hb3⟩))
  go_ret
  have hs : w.heap.size ≤ ((w.alloc (.cells #[.int .i64 a0_0, .slice A0_1 l0_1.length c0_1] 28)).alloc (.cells #[.int .i64 a1] 3)).heap.size := below_size (below_alloc (below_alloc (Below.refl _ _) _) _)
  exact ⟨_, rfl, Kd.R_lower ho2 hs, below_step (by repeat (first | (with_reducible exact Below.refl _ _) | (with_reducible apply below_alloc))) hb3⟩
 ·rw [if_neg hl] at h
  exact absurd h (by simp)

/-! ### impl_Mix: function 54 -/
def impl_Mix.f (a0 : Int) : Option (Int) := (impl_isSeed.f a0).bind fun t486 => (if t486 = true then (some (Int.tmod (wrap64 ((wrap64 (16807 * a0)) + 11)) 2147483647)) else (some 0))
set_option maxHeartbeats 8000000 in
set_option maxRecDepth 100000 in
theorem impl_Mix.calls (a0 : Int) (r : Int) (w : World) (h : impl_Mix.f a0 = some r) :
  Calls Try.prog 54 #[.int .i64 a0] w fun e w' => e = .returned (.int .i64 r) ∧ Drawn0 w w' := by
 have H : ((impl_isSeed.f a0).bind fun t486 => (if t486 = true then (some (Int.tmod (wrap64 ((wrap64 (16807 * a0)) + 11)) 2147483647)) else (some 0))) = some r := h
 clear h; replace H := Option.bind_eq_some_iff.mp H; obtain ⟨t486, A20, H⟩ := H; have A2 := Aside0.mk A20; clear A20; go_enter Try.func54, Try.ntmps54
 replace H := Aside0.mk H
 go_wp2_with (first | ((with_reducible refine gate_callee (f := 22) rfl ?_); refine goesL_ (some 4) rfl rfl Try.func22 (by kernel_rfl) rfl #[.int .i64 a0] rfl (by (try simp only [List.map_toArray, List.map_cons, List.map_nil]); first | done | rfl | (simp only [List.length_drop, List.length_take]; rfl)) ?_; (with_reducible refine (impl_isSeed.calls a0 t486 _ A2.out).mono ?_); rintro e w' ⟨rfl, ⟨nd, rfl⟩⟩; refine ⟨_, rfl, ?_⟩; refine Stop.out ?_))
 refine Stop.mk ?_
 replace H := H.out
 by_cases c3 : t486 = true
 ·subst c3; rw [if_pos rfl] at H
  obtain rfl := Option.some.inj H
  go_wp2
  go_ret
  exact ⟨by first | rfl | (simp; done) | (simp [*]; done), by repeat (first | exact Drawn0.refl _ | apply Drawn0.step)⟩
 ·replace c3 := Bool.eq_false_iff.mpr c3
  subst c3
  rw [if_neg (show ¬ (false = true) by decide)] at H
  obtain rfl := Option.some.inj H
  go_wp2
  go_ret
  exact ⟨by first | rfl | (simp; done) | (simp [*]; done), by repeat (first | exact Drawn0.refl _ | apply Drawn0.step)⟩

end Go.Proofs.Ytpoedoefbeabkaa.XFnRounds
