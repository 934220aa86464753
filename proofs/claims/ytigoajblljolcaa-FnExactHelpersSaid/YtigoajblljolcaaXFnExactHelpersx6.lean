-- Written by this session's own program (xprint.py) over the kit's print.
import Derived.Test.YtigoajblljolcaaXFnExactHelpersx0
import Derived.Test.YtigoajblljolcaaXFnExactHelpersx3
import Derived.Test.YtigoajblljolcaaXFnExactHelpersx4
import Derived.Test.YtigoajblljolcaaXFnExactHelpersx5
namespace Go.Proofs.Ytigoajblljolcaa.XFnExactHelpers
open Go.RowKit Go.Proofs.YtigoajblljolcaaW.PrintWords Go.Proofs.YtigoajblljolcaaW.PrintLast Go.Proofs.YtigoajblljolcaaW.PrintMore
attribute [local go_sem] max2_int min2_int max_two min_two max_three min_three max_four min_four   -- for this text's walks alone
set_option linter.unusedVariables false
set_option linter.unusedSimpArgs false

/-! ### spec_Helpers: function 57 -/
def spec_Helpers.j0 : Nat → Int → Bool → List Int → Int → Int → Int → Int → Int → Int → List (S82) → Option (List Int × Int × Int × Int × Int × Int × List Int)
  | 0, _, _, _, _, _, _, _, _, _, _ => none
  | k + 1, x2, x25, x209000, x209001, x209002, x209003, x209004, x209005, x210000, x210001 => if x25 = true then (some (([] : List Int), 0, 0, 0, 0, 0, ([] : List Int))) else ((spec_l11own.f x209000 x209001 x209002 x209003 x209004 x209005).bind fun bt213 => ((spec_l11helpers.f k bt213.1 bt213.2.1 bt213.2.2.1 bt213.2.2.2.1 bt213.2.2.2.2.1 bt213.2.2.2.2.2 x210000 x210001 x2).bind fun bt222 => ((some (([] : List Int) : List Int)).bind fun y233 => (if y233.length + bt222.1.length < 17592186044416 then (some (bt222.2.1, bt222.2.2.1, bt222.2.2.2.1, bt222.2.2.2.2.1, bt222.2.2.2.2.2.1, bt222.2.2.2.2.2.2, (y233 ++ bt222.1))) else (none)))))
def spec_Helpers.f (k : Nat) (l0_0 : List Int) (a0_1 : Int) (a0_2 : Int) (a0_3 : Int) (a0_4 : Int) (a0_5 : Int) (a1_0 : Int) (l1_1 : List (S82)) (a2 : Int) : Option (List Int × Int × Int × Int × Int × Int × List Int) := (spec_ProberOk.f k l0_0 a0_1 a0_2 a0_3 a0_4 a0_5).bind fun t211 => (if t211 = true then ((spec_TableOk.f k a1_0 l1_1).bind fun t212 => (if t212 = true then (if a2 < 0 then (spec_Helpers.j0 k a2 true l0_0 a0_1 a0_2 a0_3 a0_4 a0_5 a1_0 l1_1) else (spec_Helpers.j0 k a2 (decide (a2 > 3)) l0_0 a0_1 a0_2 a0_3 a0_4 a0_5 a1_0 l1_1)) else (spec_Helpers.j0 k a2 true l0_0 a0_1 a0_2 a0_3 a0_4 a0_5 a1_0 l1_1))) else (spec_Helpers.j0 k a2 true l0_0 a0_1 a0_2 a0_3 a0_4 a0_5 a1_0 l1_1))
theorem spec_Helpers.mono_l : ∀ k, (∀ y0 y1 y2 y3 y4 y5 y6 y7 y8 y9, LeO (spec_Helpers.j0 k y0 y1 y2 y3 y4 y5 y6 y7 y8 y9) (spec_Helpers.j0 (k + 1) y0 y1 y2 y3 y4 y5 y6 y7 y8 y9))
 | 0 => fun _ _ _ _ _ _ _ _ _ _ r h => by simp [spec_Helpers.j0] at h
 | k + 1 => by
  have ih0 := spec_Helpers.mono_l k
  ·intro y0 y1 y2 y3 y4 y5 y6 y7 y8 y9
   unfold spec_Helpers.j0
   repeat' first
   | (with_reducible exact ih0 _ _ _ _ _ _ _ _ _ _)
   | (with_reducible exact spec_ProberOk.mono _ _ _ _ _ _ _)
   | (with_reducible exact spec_TableOk.mono _ _ _)
   | (with_reducible exact spec_l11helpers.mono _ _ _ _ _ _ _ _ _ _)
   | (with_reducible exact LeO.refl _)
   | (with_reducible exact LeO.none _)
   | (with_reducible refine LeO.ite ?_ ?_)
   | (with_reducible refine LeO.bind ?_ (fun _ => ?_))
   | exact ih0 _ _ _ _ _ _ _ _ _ _
   | exact spec_ProberOk.mono _ _ _ _ _ _ _
   | exact spec_TableOk.mono _ _ _
   | exact spec_l11helpers.mono _ _ _ _ _ _ _ _ _ _
   | exact LeO.none _
   | refine LeO.ite ?_ ?_
   | refine LeO.bind ?_ (fun _ => ?_)
theorem spec_Helpers.mono : ∀ a0 a1 a2 a3 a4 a5 a6 a7 a8 k, LeO (spec_Helpers.f k a0 a1 a2 a3 a4 a5 a6 a7 a8) (spec_Helpers.f (k + 1) a0 a1 a2 a3 a4 a5 a6 a7 a8) := by
 intro a0 a1 a2 a3 a4 a5 a6 a7 a8 k
 have ih0 := spec_Helpers.mono_l k
 unfold spec_Helpers.f
 repeat' first
   | (with_reducible exact ih0 _ _ _ _ _ _ _ _ _ _)
   | (with_reducible exact spec_ProberOk.mono _ _ _ _ _ _ _)
   | (with_reducible exact spec_TableOk.mono _ _ _)
   | (with_reducible exact spec_l11helpers.mono _ _ _ _ _ _ _ _ _ _)
   | (with_reducible exact LeO.refl _)
   | (with_reducible exact LeO.none _)
   | (with_reducible refine LeO.ite ?_ ?_)
   | (with_reducible refine LeO.bind ?_ (fun _ => ?_))
   | exact ih0 _ _ _ _ _ _ _ _ _ _
   | exact spec_ProberOk.mono _ _ _ _ _ _ _
   | exact spec_TableOk.mono _ _ _
   | exact spec_l11helpers.mono _ _ _ _ _ _ _ _ _ _
   | exact LeO.none _
   | refine LeO.ite ?_ ?_
   | refine LeO.bind ?_ (fun _ => ?_)
set_option maxHeartbeats 8000000 in
set_option maxRecDepth 100000 in
theorem spec_Helpers.calls (k : Nat) (A0_0 : Option Addr) (c0_0 : Nat) (l0_0 : List Int) (a0_1 : Int) (a0_2 : Int) (a0_3 : Int) (a0_4 : Int) (a0_5 : Int) (a1_0 : Int) (A1_1 : Option Addr) (c1_1 : Nat) (l1_1 : List (S82)) (a2 : Int) (r1 : List Int) (r2 : Int) (r3 : Int) (r4 : Int) (r5 : Int) (r6 : Int) (r7 : List Int) (w : World) (hr0_0 : Kd.C (Kd.int .i64) w A0_0 l0_0.length l0_0) (hc0_0 : l0_0.length ≤ c0_0) (hr1_1 : Kd.C k82 w A1_1 l1_1.length l1_1) (hc1_1 : l1_1.length ≤ c1_1) (h : spec_Helpers.f k l0_0 a0_1 a0_2 a0_3 a0_4 a0_5 a1_0 l1_1 a2 = some (r1, r2, r3, r4, r5, r6, r7)) :
  Calls Try.prog 57 #[.agg #[.slice A0_0 l0_0.length c0_0, .int .i64 a0_1, .int .i64 a0_2, .int .i64 a0_3, .int .i64 a0_4, .int .i64 a0_5], .agg #[.int .i64 a1_0, .slice A1_1 l1_1.length c1_1], .int .i64 a2] w fun e w' => ∃ v0_ v6_ : Value, e = .returned (.tuple #[.agg #[v0_, .int .i64 r2, .int .i64 r3, .int .i64 r4, .int .i64 r5, .int .i64 r6], v6_]) ∧ Kd.R (Kd.int .i64) 3 w' w.heap.size (fun k_ => some k_ ≠ (v6_ : Value).ownBlock) v0_ r1 ∧ Kd.R (Kd.int .i64) 3 w' w.heap.size (fun k_ => some k_ ≠ (v0_ : Value).ownBlock) v6_ r7 ∧ Below w.heap.size w w' := by
 have hu90 := Try.underlying90
 have hu41 := Try.underlying41
 have HR0_0 := Aside0.mk hr0_0; have HC0_0 := Aside0.mk hc0_0; clear hr0_0 hc0_0; have HR1_1 := Aside0.mk hr1_1; have HC1_1 := Aside0.mk hc1_1; clear hr1_1 hc1_1
 have HB := Aside0.mk (Below.refl w.heap.size w)
 have H : ((spec_ProberOk.f k l0_0 a0_1 a0_2 a0_3 a0_4 a0_5).bind fun t211 => (if t211 = true then ((spec_TableOk.f k a1_0 l1_1).bind fun t212 => (if t212 = true then (if a2 < 0 then (spec_Helpers.j0 k a2 true l0_0 a0_1 a0_2 a0_3 a0_4 a0_5 a1_0 l1_1) else (spec_Helpers.j0 k a2 (decide (a2 > 3)) l0_0 a0_1 a0_2 a0_3 a0_4 a0_5 a1_0 l1_1)) else (spec_Helpers.j0 k a2 true l0_0 a0_1 a0_2 a0_3 a0_4 a0_5 a1_0 l1_1))) else (spec_Helpers.j0 k a2 true l0_0 a0_1 a0_2 a0_3 a0_4 a0_5 a1_0 l1_1))) = some (r1, r2, r3, r4, r5, r6, r7) := h
 clear h; have HC4 := Aside0.mk H; clear H; go_enter Try.func57, Try.ntmps57
 go_upto_region 1 with (first | ((with_reducible refine gate_dst (N := 3) rfl ?_); refine box_event ?hg (N := 3) ?hd (cs := #[.slice A0_0 l0_0.length c0_0, .int .i64 a0_1, .int .i64 a0_2, .int .i64 a0_3, .int .i64 a0_4, .int .i64 a0_5]) (t := 90) ?hr ?_; (case hd => rfl); (case hg => rfl); (case hr => first | (go_simp; done) | (go_simp; rfl)); intro gb208 hg w5 hbox hb; have n_ := an (below_step (by exact bel0) hb) (an (hbox) (an ((by rw [hg]; exact (below_size (by exact bel0)) : w.heap.size ≤ gb208)) (an ((by rw [hg]; exact (below_size (by exact bel0)) : w.heap.size ≤ gb208)) (trivial)))); clear HB; obtain ⟨HB, BK208, GW208, GE208, -⟩ := n_; clear hb hbox hg) | ((with_reducible refine gate_dst (N := 4) rfl ?_); refine box_event ?hg (N := 4) ?hd (cs := #[.int .i64 a1_0, .slice A1_1 l1_1.length c1_1]) (t := 41) ?hr ?_; (case hd => rfl); (case hg => rfl); (case hr => first | (go_simp; done) | (go_simp; rfl)); intro gb209 hg w6 hbox hb; have n_ := an (blk_below (blk_nw BK208.out) hb) (an (below_step (by exact bel0) hb) (an (hbox) (an ((by rw [hg]; exact (below_size (by exact bel0)) : w.heap.size ≤ gb209)) (an ((by rw [hg]; exact (below_size (by exact bel0)) : w.heap.size ≤ gb209)) (an ((by rw [hg]; exact Nat.ne_of_lt (blk_lt (blk_nw BK208.out)) : gb208 ≠ gb209)) (an ((by rw [hg]; exact Nat.ne_of_gt (blk_lt (blk_nw BK208.out)) : gb209 ≠ gb208)) (trivial))))))); clear BK208 HB; obtain ⟨BK208, HB, BK209, GW209, GE209, NB208_209, NB209_208, -⟩ := n_; clear hb hbox hg) | ((with_reducible refine gate_dst (N := 6) rfl ?_); refine box_event ?hg (N := 6) ?hd (cs := #[.slice none 0 0, .int .i64 0, .int .i64 0, .int .i64 0, .int .i64 0, .int .i64 0]) (t := 90) ?hr ?_; (case hd => rfl); (case hg => rfl); (case hr => first | (go_simp; done) | (go_simp; rfl)); intro gb210 hg w7 hbox hb; have n_ := an (blk_below (blk_nw BK208.out) hb) (an (blk_below (blk_nw BK209.out) hb) (an (below_step (by exact bel0) hb) (an (hbox) (an ((by rw [hg]; exact (below_size (by exact bel0)) : w.heap.size ≤ gb210)) (an ((by rw [hg]; exact (below_size (by exact bel0)) : w.heap.size ≤ gb210)) (an ((by rw [hg]; exact Nat.ne_of_lt (blk_lt (blk_nw BK208.out)) : gb208 ≠ gb210)) (an ((by rw [hg]; exact Nat.ne_of_gt (blk_lt (blk_nw BK208.out)) : gb210 ≠ gb208)) (an ((by rw [hg]; exact Nat.ne_of_lt (blk_lt (blk_nw BK209.out)) : gb209 ≠ gb210)) (an ((by rw [hg]; exact Nat.ne_of_gt (blk_lt (blk_nw BK209.out)) : gb210 ≠ gb209)) (trivial)))))))))); clear BK208 BK209 HB; obtain ⟨BK208, BK209, HB, BK210, GW210, GE210, NB208_210, NB210_208, NB209_210, NB210_209, -⟩ := n_; clear hb hbox hg))
 (try simp only [Act.put, List.setIfInBounds_toArray, List.set_cons_zero, List.set_cons_succ])
 go_cut [25] (fun v25 wc => ∃ (kq : Nat) (x25_3 : Bool), v25 = .bool x25_3 ∧ Aside0 (spec_Helpers.j0 kq a2 x25_3 l0_0 a0_1 a0_2 a0_3 a0_4 a0_5 a1_0 l1_1 = some (r1, r2, r3, r4, r5, r6, r7)) ∧ Aside0 (kq ≤ k) ∧ Aside0 (wc.heap[gb208]? = some (.cells #[(.slice A0_0 l0_0.length c0_0), .int .i64 a0_1, .int .i64 a0_2, .int .i64 a0_3, .int .i64 a0_4, .int .i64 a0_5] 90 (0, 0))) ∧ Aside0 (wc.heap[gb209]? = some (.cells #[.int .i64 a1_0, (.slice A1_1 l1_1.length c1_1)] 41 (0, 0))) ∧ Aside0 (wc.heap[gb210]? = some (.cells #[(.slice none 0 0), .int .i64 0, .int .i64 0, .int .i64 0, .int .i64 0, .int .i64 0] 90 (0, 0))) ∧ Aside0 (Below w.heap.size w wc))
 case first =>
  have H := HC4.out; clear HC4; replace H := Option.bind_eq_some_iff.mp H; obtain ⟨t211, A80, H⟩ := H; have A8 := Aside0.mk A80; clear A80; have hnb9 := NB208_209.out; have hnc9 := NB209_208.out; have hnb10 := NB208_210.out; have hnc10 := NB210_208.out; obtain ⟨hcz11_0, hcz11_1, hcz11_2, hcz11_3, hcz11_4, hcz11_5⟩ := blkz6 BK208.out; have hfz11_0 := blkf BK208.out
  replace H := Aside0.mk H
  go_wp2_with (first | ((with_reducible refine gate_callee (f := 118) rfl ?_); refine goesL_ (some 11) rfl rfl Try.func118 (by kernel_rfl) rfl #[.agg #[.slice A0_0 l0_0.length c0_0, .int .i64 a0_1, .int .i64 a0_2, .int .i64 a0_3, .int .i64 a0_4, .int .i64 a0_5]] rfl (by (try simp only [List.map_toArray, List.map_cons, List.map_nil]); first | done | rfl | (simp only [List.length_drop, List.length_take]; rfl)) ?_; (with_reducible refine (spec_ProberOk.calls k _ _ l0_0 a0_1 a0_2 a0_3 a0_4 a0_5 t211 _ ?side1 ?side2 A8.out).mono ?_); (case side1 => repeat (first | exact (Kd.C_below HR0_0.out HB.out) | (with_reducible refine Kd.C_alloc ?_ _) | (with_reducible refine Kd.C_drewN ?_ _) | (with_reducible refine Kd.C_drew ?_))); (case side2 => exact HC0_0.out); rintro e w12 ⟨rfl, hb⟩; refine ⟨_, rfl, ?_⟩; have n_ := an (blk_below (blk_nw BK208.out) hb) (an (blk_below (blk_nw BK209.out) hb) (an (blk_below (blk_nw BK210.out) hb) (an (below_step (by exact bel0) hb) (trivial)))); clear BK208 BK209 BK210 HB; obtain ⟨BK208, BK209, BK210, HB, -⟩ := n_; (try clear hb); (try clear hb2); (try clear hk); (try clear hi); refine Stop.out ?_))
  refine Stop.mk ?_
  replace H := H.out
  by_cases c13 : t211 = true
  ·subst c13; rw [if_pos rfl] at H; replace H := Option.bind_eq_some_iff.mp H; obtain ⟨t212, A140, H⟩ := H; have A14 := Aside0.mk A140; clear A140; have hnb15 := NB209_208.out; have hnc15 := NB208_209.out; have hnb16 := NB209_210.out; have hnc16 := NB210_209.out; obtain ⟨hcz17_0, hcz17_1⟩ := blkz2 BK209.out; have hfz17_0 := blkf BK209.out
   replace H := Aside0.mk H
   go_wp2_with (first | (go_at_call 77; (with_reducible refine (spec_TableOk.calls k a1_0 _ _ l1_1 t212 _ ?side1 ?side2 A14.out).mono ?_); (case side1 => repeat (first | exact (Kd.C_below HR1_1.out HB.out) | (with_reducible refine Kd.C_alloc ?_ _) | (with_reducible refine Kd.C_drewN ?_ _) | (with_reducible refine Kd.C_drew ?_))); (case side2 => exact HC1_1.out); rintro e w18 ⟨rfl, hb⟩; have n_ := an (blk_below (blk_nw BK208.out) hb) (an (blk_below (blk_nw BK209.out) hb) (an (blk_below (blk_nw BK210.out) hb) (an (below_step (by exact bel0) hb) (trivial)))); clear BK208 BK209 BK210 HB; obtain ⟨BK208, BK209, BK210, HB, -⟩ := n_; (try clear hb); (try clear hb2); (try clear hk); (try clear hi); refine Stop.out ?_))
   refine Stop.mk ?_
   replace H := H.out
   by_cases c19 : t212 = true
   ·subst c19; rw [if_pos rfl] at H
    by_cases c20 : a2 < 0
    ·rw [if_pos c20] at H; have c20b0 : decide (a2 < 0) = true := decide_eq_true c20; clear c20; (try simp only [c20b0])
     (first | rw [c20b0] | (simp only [i64_w, i32_w]; rw [c20b0]) | skip)
     have H' := Aside0.mk H
     clear H
     go_wp2
     go_meet
     case rel => exact ⟨_, (true), (by first | rfl | (simp; done) | (simp [*]; done)), H', ⟨by first | omega | exact Nat.le_refl _⟩, ⟨by exact blk_nw BK208.out⟩, ⟨by exact blk_nw BK209.out⟩, ⟨by exact blk_nw BK210.out⟩, ⟨by exact bel0⟩⟩
    ·rw [if_neg c20] at H; have c20b0 : decide (a2 < 0) = false := decide_eq_false c20; clear c20; (try simp only [c20b0])
     (first | rw [c20b0] | (simp only [i64_w, i32_w]; rw [c20b0]) | skip)
     have H' := Aside0.mk H
     clear H
     go_wp2
     go_meet
     case rel => exact ⟨_, (decide (a2 > 3)), (by first | rfl | (simp; done) | (simp [*]; done)), H', ⟨by first | omega | exact Nat.le_refl _⟩, ⟨by exact blk_nw BK208.out⟩, ⟨by exact blk_nw BK209.out⟩, ⟨by exact blk_nw BK210.out⟩, ⟨by exact bel0⟩⟩
   ·replace c19 := Bool.eq_false_iff.mpr c19
    subst c19
    rw [if_neg (show ¬ (false = true) by decide)] at H
    have H' := Aside0.mk H
    clear H
    go_wp2
    go_meet
    case rel => exact ⟨_, (true), (by first | rfl | (simp; done) | (simp [*]; done)), H', ⟨by first | omega | exact Nat.le_refl _⟩, ⟨by exact blk_nw BK208.out⟩, ⟨by exact blk_nw BK209.out⟩, ⟨by exact blk_nw BK210.out⟩, ⟨by exact bel0⟩⟩
  ·replace c13 := Bool.eq_false_iff.mpr c13
   subst c13
   rw [if_neg (show ¬ (false = true) by decide)] at H
   have H' := Aside0.mk H
   clear H
   go_wp2
   go_meet
   case rel => exact ⟨_, (true), (by first | rfl | (simp; done) | (simp [*]; done)), H', ⟨by first | omega | exact Nat.le_refl _⟩, ⟨by exact blk_nw BK208.out⟩, ⟨by exact blk_nw BK209.out⟩, ⟨by exact blk_nw BK210.out⟩, ⟨by exact bel0⟩⟩
 case rest =>
  clear HC4; try clear c1; try clear c2; try clear p2; try clear c5; try clear c9; try clear c10; try clear c11; try clear c13; try clear c15; try clear c16; try clear c19; try clear c20; try clear c20b0; try clear hcz11_0; try clear hcz11_1; try clear hcz11_2; try clear hcz11_3; try clear hcz11_4; try clear hcz11_5; try clear hcz17_0; try clear hcz17_1; try clear hfz11_0; try clear hfz11_1; try clear hfz11_2; try clear hfz11_3; try clear hfz11_4; try clear hfz11_5; try clear hfz17_0; try clear hfz17_1
  obtain ⟨kq, x25_3, rfl, HA, HJ3, BK208, BK209, BK210, HB⟩ := hcut
  cases kq with
  | zero => exact absurd HA.out (by simp [spec_Helpers.j0])
  | succ kj3 =>
   have H := HA.out; clear HA
   simp only [spec_Helpers.j0] at H
   by_cases c21 : x25_3 = true
   ·subst c21; rw [if_pos rfl] at H; simp only [Option.some.injEq, Prod.mk.injEq] at H; obtain ⟨rfl, rfl, rfl, rfl, rfl, rfl, rfl⟩ := H; have hnb22 := NB210_208.out; have hnc22 := NB208_210.out; have hnb23 := NB210_209.out; have hnc23 := NB209_210.out; obtain ⟨hcz24_0, hcz24_1, hcz24_2, hcz24_3, hcz24_4, hcz24_5⟩ := blkz6 BK210.out; have hfz24_0 := blkf BK210.out
    go_wp2_with (first | ((with_reducible refine gate_store (t := 90) (p := 6) rfl ?_); refine store_event (t := 90) (p := 6) (v := ?vo_w25) (w1 := ((((((wc.setCell ⟨gb210, 0, none⟩ (.slice none 0 0)).setCell ⟨gb210, 1, none⟩ (.int .i64 0)).setCell ⟨gb210, 2, none⟩ (.int .i64 0)).setCell ⟨gb210, 3, none⟩ (.int .i64 0)).setCell ⟨gb210, 4, none⟩ (.int .i64 0)).setCell ⟨gb210, 5, none⟩ (.int .i64 0))) ?hg ?ho ?hn ?hr ?_; (case ho => rfl); (case hg => rfl); (case hn => rfl); (case hr => first | (go_simp; done) | (go_simp; rfl)); intro w25 hw; have n0_ : Aside0 (w25.heap[gb208]? = some (.cells #[.slice A0_0 l0_0.length c0_0, .int .i64 a0_1, .int .i64 a0_2, .int .i64 a0_3, .int .i64 a0_4, .int .i64 a0_5] 90 (0, 0))) := ⟨(by rw [hw]; exact (by exact blk_kb BK208.out NB208_210.out))⟩; have n1_ : Aside0 (w25.heap[gb209]? = some (.cells #[.int .i64 a1_0, .slice A1_1 l1_1.length c1_1] 41 (0, 0))) := ⟨(by rw [hw]; exact (by exact blk_kb BK209.out NB209_210.out))⟩; have n2_ : Aside0 (w25.heap[gb210]? = some (.cells #[.slice none 0 0, .int .i64 0, .int .i64 0, .int .i64 0, .int .i64 0, .int .i64 0] 90 (0, 0))) := ⟨(by rw [hw]; exact (by (with_reducible repeat (first | refine blk_drewN ?_ _ | refine blk_drew ?_ | refine blk_alloc ?_ _)); exact blk_fill6 BK210.out))⟩; have n3_ : Aside0 (Below w.heap.size w w25) := ⟨(by rw [hw]; exact (by exact bel0))⟩; clear hw; clear BK208; clear BK209; clear BK210; clear HB; have BK208 := n0_; have BK209 := n1_; have BK210 := n2_; have HB := n3_; clear n0_ n1_ n2_ n3_))
    refine bodyPost_ret (results_ct rfl _ _ gb210 90 #[.slice none 0 0, .int .i64 0, .int .i64 0, .int .i64 0, .int .i64 0, .int .i64 0] (0, 0) _ rfl (by exact blk_nw BK210.out) Try.underlying90 rfl (by kernel_rfl)) rfl ?_
    exact ⟨_, _, by first | rfl | (simp [errW_none, errW_some] <;> rfl) | (simp [*, errW_none, errW_some] <;> rfl), by first | exact Kd.R_nil _ _ _ _ _ | exact Kd.N_nil _ _ _ _ _ | exact Kd.V_nil _ _ _ _ _ | exact Kd.Q_nil _ _ _ _ _ | exact Kd.S_nil _ _ _ _ _, by first | exact Kd.R_nil _ _ _ _ _ | exact Kd.N_nil _ _ _ _ _ | exact Kd.V_nil _ _ _ _ _ | exact Kd.Q_nil _ _ _ _ _ | exact Kd.S_nil _ _ _ _ _, by exact bel0⟩
   ·replace c21 := Bool.eq_false_iff.mpr c21
    subst c21
    rw [if_neg (show ¬ (false = true) by decide)] at H
    replace H := Option.bind_eq_some_iff.mp H
    obtain ⟨⟨t213, t216, t217, t218, t219, t220⟩, A260, H⟩ := H
    replace H : ((spec_l11helpers.f kj3 t213 t216 t217 t218 t219 t220 a1_0 l1_1 a2).bind fun bt222 => ((some (([] : List Int) : List Int)).bind fun y233 => (if y233.length + bt222.1.length < 17592186044416 then (some (bt222.2.1, bt222.2.2.1, bt222.2.2.2.1, bt222.2.2.2.2.1, bt222.2.2.2.2.2.1, bt222.2.2.2.2.2.2, (y233 ++ bt222.1))) else (none)))) = some (r1, r2, r3, r4, r5, r6, r7) := H
    have A26 := Aside0.mk A260; clear A260; replace H := Option.bind_eq_some_iff.mp H
    obtain ⟨⟨t222, t225, t228, t229, t230, t231, t232⟩, A270, H⟩ := H
    replace H : ((some (([] : List Int) : List Int)).bind fun y233 => (if y233.length + t222.length < 17592186044416 then (some (t225, t228, t229, t230, t231, t232, (y233 ++ t222))) else (none))) = some (r1, r2, r3, r4, r5, r6, r7) := H
    have A27 := Aside0.mk A270; clear A270
    obtain ⟨y233, hy233⟩ : ∃ y_ : List Int, y_ = (([] : List Int)) := ⟨_, rfl⟩
    replace H : (if y233.length + t222.length < 17592186044416 then (some (t225, t228, t229, t230, t231, t232, (y233 ++ t222))) else (none)) = some (r1, r2, r3, r4, r5, r6, r7) := by first | (rw [hy233]; with_reducible exact H) | (have H2_ := (Option.bind_some _ _).symm.trans H; rw [hy233]; with_reducible exact H2_) | (have H2_ := (Option.bind_some _ _).symm.trans H; with_reducible exact H2_) | with_reducible exact H | (rw [hy233]; exact H) | exact H
    have Ny233 := Aside0.mk hy233; clear hy233
    by_cases c28 : y233.length + t222.length < 17592186044416
    ·rw [if_pos c28] at H; have LMc28 := Aside0.mk c28; clear c28
     obtain ⟨y236, hy236⟩ : ∃ y_ : List Int, y_ = (y233 ++ t222) := ⟨_, rfl⟩
     replace H : (some (t225, t228, t229, t230, t231, t232, y236)) = some (r1, r2, r3, r4, r5, r6, r7) := by first | (rw [hy236]; with_reducible exact H) | (have H2_ := (Option.bind_some _ _).symm.trans H; rw [hy236]; with_reducible exact H2_) | (have H2_ := (Option.bind_some _ _).symm.trans H; with_reducible exact H2_) | with_reducible exact H | (rw [hy236]; exact H) | exact H
     have Ny236 := Aside0.mk hy236; clear hy236; simp only [Option.some.injEq, Prod.mk.injEq] at H; obtain ⟨rfl, rfl, rfl, rfl, rfl, rfl, rfl⟩ := H; have hnb29 := NB208_209.out; have hnc29 := NB209_208.out; have hnb30 := NB208_210.out; have hnc30 := NB210_208.out; obtain ⟨hcz31_0, hcz31_1, hcz31_2, hcz31_3, hcz31_4, hcz31_5⟩ := blkz6 BK208.out; have hfz31_0 := blkf BK208.out
     try go_wp2_with (first | ((with_reducible refine gate_callee (f := 119) rfl ?_); refine goesL_ (some 28) rfl rfl Try.func119 (by kernel_rfl) rfl #[.agg #[.slice A0_0 l0_0.length c0_0, .int .i64 a0_1, .int .i64 a0_2, .int .i64 a0_3, .int .i64 a0_4, .int .i64 a0_5]] rfl (by (try simp only [List.map_toArray, List.map_cons, List.map_nil]); first | done | rfl | (simp only [List.length_drop, List.length_take]; rfl)) ?_; (with_reducible refine (spec_l11own.calls _ _ l0_0 a0_1 a0_2 a0_3 a0_4 a0_5 t213 t216 t217 t218 t219 t220 _ ?side1 ?side2 A26.out).mono ?_); (case side1 => repeat (first | exact (Kd.C_below HR0_0.out HB.out) | (with_reducible refine Kd.C_alloc ?_ _) | (with_reducible refine Kd.C_drewN ?_ _) | (with_reducible refine Kd.C_drew ?_))); (case side2 => exact HC0_0.out); rintro e w32 ⟨v214, rfl, ho0, hb⟩; refine ⟨_, rfl, ?_⟩; have n_ := an (Kd.R_lower ho0 (below_size (by exact bel0))) (an (blk_below (blk_nw BK208.out) hb) (an (blk_below (blk_nw BK209.out) hb) (an (blk_below (blk_nw BK210.out) hb) (an (below_step (by exact bel0) hb) (trivial))))); clear BK208 BK209 BK210 HB; obtain ⟨HO215, BK208, BK209, BK210, HB, -⟩ := n_; (try clear hb); (try clear hb2); (try clear hk); (try clear hi); (try clear ho0)) | ((with_reducible refine gate_dst (N := 8) rfl ?_); refine box_event ?hg (N := 8) ?hd (cs := #[.slice none 0 0, .int .i64 0, .int .i64 0, .int .i64 0, .int .i64 0, .int .i64 0]) (t := 90) ?hr ?_; (case hd => rfl); (case hg => rfl); (case hr => first | (go_simp; done) | (go_simp; rfl)); intro gb221 hg w33 hbox hb; have n_ := an (Kd.R_below (by exact Kd.R_nw HO215.out) hb) (an (blk_below (blk_nw BK208.out) hb) (an (blk_below (blk_nw BK209.out) hb) (an (blk_below (blk_nw BK210.out) hb) (an (below_step (by exact bel0) hb) (an (hbox) (an ((by rw [hg]; exact (below_size (by exact bel0)) : w.heap.size ≤ gb221)) (an ((by rw [hg]; exact (below_size (by exact bel0)) : w.heap.size ≤ gb221)) (an ((by rw [hg]; exact Nat.ne_of_lt (blk_lt (blk_nw BK208.out)) : gb208 ≠ gb221)) (an ((by rw [hg]; exact Nat.ne_of_gt (blk_lt (blk_nw BK208.out)) : gb221 ≠ gb208)) (an ((by rw [hg]; exact Nat.ne_of_lt (blk_lt (blk_nw BK209.out)) : gb209 ≠ gb221)) (an ((by rw [hg]; exact Nat.ne_of_gt (blk_lt (blk_nw BK209.out)) : gb221 ≠ gb209)) (an ((by rw [hg]; exact Nat.ne_of_lt (blk_lt (blk_nw BK210.out)) : gb210 ≠ gb221)) (an ((by rw [hg]; exact Nat.ne_of_gt (blk_lt (blk_nw BK210.out)) : gb221 ≠ gb210)) (trivial)))))))))))))); clear HO215 BK208 BK209 BK210 HB; obtain ⟨HO215, BK208, BK209, BK210, HB, BK221, GW221, GE221, NB208_221, NB221_208, NB209_221, NB221_209, NB210_221, NB221_210, -⟩ := n_; clear hb hbox hg; obtain ⟨Ao34, co34, eo34⟩ := Kd.R_slice HO215.out; subst eo34; have hnb35 := NB221_208.out; have hnc35 := NB208_221.out; have hnb36 := NB221_209.out; have hnc36 := NB209_221.out; have hnb37 := NB221_210.out; have hnc37 := NB210_221.out; obtain ⟨hcz38_0, hcz38_1, hcz38_2, hcz38_3, hcz38_4, hcz38_5⟩ := blkz6 BK221.out; have hfz38_0 := blkf BK221.out) | ((with_reducible refine gate_store (t := 90) (p := 8) rfl ?_); refine store_event (t := 90) (p := 8) (v := ?vo_w39) (w1 := ((((((w33.setCell ⟨gb221, 0, none⟩ (.slice Ao34 t213.length co34)).setCell ⟨gb221, 1, none⟩ (.int .i64 t216)).setCell ⟨gb221, 2, none⟩ (.int .i64 t217)).setCell ⟨gb221, 3, none⟩ (.int .i64 t218)).setCell ⟨gb221, 4, none⟩ (.int .i64 t219)).setCell ⟨gb221, 5, none⟩ (.int .i64 t220))) ?hg ?ho ?hn ?hr ?_; (case ho => rfl); (case hg => rfl); (case hn => rfl); (case hr => first | (go_simp; done) | (go_simp; rfl)); intro w39 hw; have n0_ : Aside0 (Kd.R (Kd.int .i64) 3 w39 w.heap.size (fun _ => True) (.slice Ao34 t213.length co34) t213) := ⟨(by rw [hw]; exact (by exact (Kd.R_farN HO215.out BK221.out)))⟩; have n1_ : Aside0 (w39.heap[gb208]? = some (.cells #[.slice A0_0 l0_0.length c0_0, .int .i64 a0_1, .int .i64 a0_2, .int .i64 a0_3, .int .i64 a0_4, .int .i64 a0_5] 90 (0, 0))) := ⟨(by rw [hw]; exact (by exact blk_kb BK208.out NB208_221.out))⟩; have n2_ : Aside0 (w39.heap[gb209]? = some (.cells #[.int .i64 a1_0, .slice A1_1 l1_1.length c1_1] 41 (0, 0))) := ⟨(by rw [hw]; exact (by exact blk_kb BK209.out NB209_221.out))⟩; have n3_ : Aside0 (w39.heap[gb210]? = some (.cells #[.slice none 0 0, .int .i64 0, .int .i64 0, .int .i64 0, .int .i64 0, .int .i64 0] 90 (0, 0))) := ⟨(by rw [hw]; exact (by exact blk_kb BK210.out NB210_221.out))⟩; have n4_ : Aside0 (w39.heap[gb221]? = some (.cells #[.slice Ao34 t213.length co34, .int .i64 t216, .int .i64 t217, .int .i64 t218, .int .i64 t219, .int .i64 t220] 90 (0, 0))) := ⟨(by rw [hw]; exact (by (with_reducible repeat (first | refine blk_drewN ?_ _ | refine blk_drew ?_ | refine blk_alloc ?_ _)); exact blk_fill6 BK221.out))⟩; have n5_ : Aside0 (Below w.heap.size w w39) := ⟨(by rw [hw]; exact (by exact bel0))⟩; clear hw; clear HO215; clear BK208; clear BK209; clear BK210; clear BK221; clear HB; have HO215 := n0_; have BK208 := n1_; have BK209 := n2_; have BK210 := n3_; have BK221 := n4_; have HB := n5_; clear n0_ n1_ n2_ n3_ n4_ n5_; have hnb40 := NB209_210.out; have hnc40 := NB210_209.out; obtain ⟨hcz41_0, hcz41_1⟩ := blkz2 BK209.out; have hfz41_0 := blkf BK209.out) | ((with_reducible refine gate_callee (f := 120) rfl ?_); refine goesL_ (some 31) rfl rfl Try.func120 (by kernel_rfl) rfl #[.pointer (some ⟨gb221, 0, none⟩), .agg #[.int .i64 a1_0, .slice A1_1 l1_1.length c1_1], .int .i64 a2] rfl (by (try simp only [List.map_toArray, List.map_cons, List.map_nil]); first | done | rfl | (simp only [List.length_drop, List.length_take]; rfl)) ?_; (with_reducible refine (spec_l11helpers.calls kj3 gb221 (fun k_ => some k_ = (.slice Ao34 t213.length co34 : Value).ownBlock) (.slice Ao34 t213.length co34) t213 t216 t217 t218 t219 t220 a1_0 _ _ l1_1 a2 t222 t225 t228 t229 t230 t231 t232 w _ ?side1 ?side2 ?side3 ?side4 ?side5 ?side6 A27.out).mono ?_); (case side1 => exact bel0); (case side2 => exact blk_nw BK221.out); (case side3 => exact GE221.out); (case side4 => exact Kd.R_tight rfl HO215.out); (case side5 => exact Kd.C_kept_came k82_heap HR1_1.out (by exact bel0) (fun k_ hs_ => Or.elim hs_ (fun hs_ => (fun e_ => Kd.R_base HO215.out k_ e_.symm) hs_) (fun e_ => (by rw [e_]; exact GE221.out)))); (case side6 => exact HC1_1.out); rintro e w42 ⟨v223, rfl, v226, ho0, ho1, hi, hb, hkp⟩; refine ⟨_, rfl, ?_⟩; have n_ := an (blk_kept (by exact blk_nw BK208.out) hkp (fun hs_ => Or.elim hs_ (fun hs_ => (fun e_ => (Kd.R_ne HO215.out BK208.out (by decide)) e_) hs_) (fun e_ => NB208_221.out e_))) (an (blk_kept (by exact blk_nw BK209.out) hkp (fun hs_ => Or.elim hs_ (fun hs_ => (fun e_ => (Kd.R_ne HO215.out BK209.out (by decide)) e_) hs_) (fun e_ => NB209_221.out e_))) (an (blk_kept (by exact blk_nw BK210.out) hkp (fun hs_ => Or.elim hs_ (fun hs_ => (fun e_ => (Kd.R_ne HO215.out BK210.out (by decide)) e_) hs_) (fun e_ => NB210_221.out e_))) (an (hi) (an (Kd.R_mono (ok' := fun k_ => some k_ ≠ (v226 : Value).ownBlock) ho0 (fun k_ hk_ => hk_.2)) (an (Kd.R_mono (ok' := fun k_ => some k_ ≠ (v223 : Value).ownBlock) ho1 (fun k_ hk_ => hk_.2)) (an (hb) (trivial))))))); clear BK208 BK209 BK210 BK221 HB HO215; obtain ⟨BK208, BK209, BK210, BK221, HO224, HO227, HB, -⟩ := n_; (try clear hb); (try clear hkp); (try clear ho0); (try clear ho1)))
     have n_ := an (Kd.R_drew HO224.out) (an (Kd.R_drew HO227.out) (an (blk_drew BK208.out) (an (blk_drew BK209.out) (an (blk_drew BK210.out) (an (blk_drew BK221.out) (an (below_drew1 HB.out) (trivial)))))))
     clear HO224 HO227 BK208 BK209 BK210 BK221 HB
     obtain ⟨HO224, HO227, BK208, BK209, BK210, BK221, HB, -⟩ := n_
     refine start_ (n := 6) (S := fun w' => w'.cell? ⟨gb221, 0, none⟩ = some (v226) ∧ w'.cell? ⟨gb221, 1, none⟩ = some (.int .i64 t228) ∧ w'.cell? ⟨gb221, 2, none⟩ = some (.int .i64 t229) ∧ w'.cell? ⟨gb221, 3, none⟩ = some (.int .i64 t230) ∧ w'.cell? ⟨gb221, 4, none⟩ = some (.int .i64 t231) ∧ w'.cell? ⟨gb221, 5, none⟩ = some (.int .i64 t232)) (ds := []) #[false, false, false, false, false, false] (by kernel_rfl) rfl rfl ⟨(blk_cell BK221.out 0).trans rfl, (blk_cell BK221.out 1).trans rfl, (blk_cell BK221.out 2).trans rfl, (blk_cell BK221.out 3).trans rfl, (blk_cell BK221.out 4).trans rfl, (blk_cell BK221.out 5).trans rfl⟩ (fun hHeld => ?_)
     generalize w42.drew = w43 at HO224 HO227 BK208 BK209 BK210 BK221 HB hHeld ⊢
     refine pure_ (i := 2) (N := some 34) (v := ?_) (a' := ?_) #[false, false, true, false, false, false] rfl rfl (by kernel_rfl) (fun _ _ _ h => h) (Or.inl ⟨by rfl, ?_⟩) ?_ ?_
     rotate_left
     ·intro w'
      go_simp
      with_reducible rfl
     rotate_left
     ·simp only [Act.put, List.setIfInBounds_toArray, List.set_cons_zero, List.set_cons_succ, i64_w, i32_w]
      rfl
     refine take_ (i := 0) (N := some 32) (v := ?_) (a' := ?_) #[true, false, true, false, false, false] rfl rfl (by kernel_rfl) (fun _ _ _ h => h) (Or.inl ⟨by rfl, ?_⟩) hHeld ?_ ?_
     rotate_left
     ·rintro w' ⟨s0, s1, s2, s3, s4, s5⟩
      go_simp
      with_reducible rfl
     rotate_left
     ·simp only [Act.put, List.setIfInBounds_toArray, List.set_cons_zero, List.set_cons_succ, i64_w, i32_w]
      rfl
     refine one_ (i := 1) (N := some 33) #[true, true, true, false, false, false] rfl rfl (by kernel_rfl) (by decide) (fun K hK => ?_)
     refine Kd.R_lit_step (Kd.int .i64) _ 3 ?hg (N := 33) ?hd (xs := ([] : List Int)) (inner := []) (ok := fun _ => True) (okp := fun _ => True) ?hr ?hp (fun _ hk => hk) trivial (Below.refl _ _) (Nat.le_refl _) (by simp) ?_; (case hd => rfl); (case hg => rfl); (case hr => first | (go_simp; done) | (go_simp; rfl)); (case hp => exact (Reps.none _ _))
     intro v234 w44 ho45 hb hg_ hnew_
     clear hg_ hnew_
     (first | rw [← Ny233.out] at ho45 | (simp only [Int.reduceToNat] at ho45; rw [← Ny233.out] at ho45))
     have n_ := an (Kd.R_elder' (by exact Kd.R_nw HO224.out) (Kd.R_base ho45) hb) (an (Kd.R_elder' (by exact Kd.R_nw HO227.out) (Kd.R_base ho45) hb) (an (Kd.R_lower (Kd.R_new' (Kd.R_new' ho45 (Kd.R_lt (by exact Kd.R_nw HO224.out))) (Kd.R_lt (by exact Kd.R_nw HO227.out))) (below_size (by exact bel0))) (an (blk_below (blk_nw BK208.out) hb) (an (blk_below (blk_nw BK209.out) hb) (an (blk_below (blk_nw BK210.out) hb) (an (blk_below (blk_nw BK221.out) hb) (an (below_step (by exact bel0) hb) (trivial))))))))
     clear HO224 HO227 BK208 BK209 BK210 BK221 HB
     obtain ⟨HO224, HO227, HO235, BK208, BK209, BK210, BK221, HB, -⟩ := n_
     clear hb ho45
     obtain ⟨Ao47, co47, eo47⟩ := Kd.R_slice HO224.out
     (first | subst eo47 | (injection eo47 with f1_ f2_ f3_; have f4_ := f1_.symm; have f5_ := f3_.symm; clear f1_ f2_ f3_; subst f4_; subst f5_))
     refine hK.out _ _ ⟨(blk_cell BK221.out 0).trans rfl, (blk_cell BK221.out 1).trans rfl, (blk_cell BK221.out 2).trans rfl, (blk_cell BK221.out 3).trans rfl, (blk_cell BK221.out 4).trans rfl, (blk_cell BK221.out 5).trans rfl⟩ (fun hHeld => ?_)
     clear hK K
     refine norm_ (a' := ?_) ?_ ?_
     rotate_left
     ·show Act.put _ (some 33) _ = _
      simp only [Act.put, List.setIfInBounds_toArray, List.set_cons_zero, List.set_cons_succ, i64_w, i32_w]
      rfl
     refine one_ (i := 3) (N := some 35) #[true, true, true, true, false, false] rfl rfl (by kernel_rfl) (by decide) (fun K hK => ?_)
     refine Kd.R_append_rows_step (Kd.int .i64) (w0 := w) w.heap.size (by rfl) (.tmp 33) (.tmp 34) 63 3 (.int .i64 0) 8 rfl Try.underlying63 info3 rfl (by decide) (by omega) v234 y233 t222 _ _ _ (fun k_ => some k_ ≠ (.slice Ao47 t222.length co47 : Value).ownBlock ∧ some k_ ≠ (v226 : Value).ownBlock) (fun _ => False) rfl rfl ?aO ?aR (fun _ _ h => h) (fun _ h => h.elim) ?aF ?aB ?aS ?aL ?_
     (case aR => repeat (first | exact (Kd.R_reads' HO224.out).2.2 | (with_reducible refine Kd.C_alloc ?_ _) | (with_reducible refine Kd.C_drewN ?_ _) | (with_reducible refine Kd.C_drew ?_)))
     (case aB => exact (by exact bel0))
     (case aF => exact (fun k_ hk => ⟨Kd.fresh' (Kd.R_lt (by exact Kd.R_nw HO224.out)) k_ hk, Kd.fresh' (Kd.R_lt (by exact Kd.R_nw HO227.out)) k_ hk⟩))
     (case aO => exact (by exact Kd.R_nw (Kd.R_mono HO235.out (fun _ hk => ⟨hk.1.2, hk.2⟩))))
     (case aS => exact (below_size (by exact bel0)))
     (case aL => have := LMc28.out; omega)
     intro v237 w46 ho hb hg hat
     rw [← Ny236.out] at ho
     have n_ := an (blk_grown (blk_nw BK208.out) hg (Kd.R_ne HO235.out BK208.out (by decide))) (an (blk_grown (blk_nw BK209.out) hg (Kd.R_ne HO235.out BK209.out (by decide))) (an (blk_grown (blk_nw BK210.out) hg (Kd.R_ne HO235.out BK210.out (by decide))) (an (blk_grown (blk_nw BK221.out) hg (Kd.R_ne HO235.out BK221.out (by decide))) (an (Kd.R_after (ok := (fun k_ => some k_ ≠ (v226 : Value).ownBlock)) (by exact Kd.R_nw HO224.out) hg hat) (an (Kd.R_after (ok := (fun k_ => some k_ ≠ (.slice Ao47 t222.length co47 : Value).ownBlock)) (by exact Kd.R_nw HO227.out) hg hat) (an (hb) (an (ho) (trivial))))))))
     clear BK208 BK209 BK210 BK221 HO224 HO227 HB HO235
     obtain ⟨BK208, BK209, BK210, BK221, HO224, HO227, HB, HO238, -⟩ := n_
     clear ho hb hg hat
     obtain ⟨Ao48, co48, eo48⟩ := Kd.R_slice HO227.out
     (first | subst eo48 | (injection eo48 with f1_ f2_ f3_; have f4_ := f1_.symm; have f5_ := f3_.symm; clear f1_ f2_ f3_; subst f4_; subst f5_))
     refine hK.out _ _ ⟨(blk_cell BK221.out 0).trans rfl, (blk_cell BK221.out 1).trans rfl, (blk_cell BK221.out 2).trans rfl, (blk_cell BK221.out 3).trans rfl, (blk_cell BK221.out 4).trans rfl, (blk_cell BK221.out 5).trans rfl⟩ (fun hHeld => ?_)
     clear hK K
     refine norm_ (a' := ?_) ?_ ?_
     rotate_left
     ·show Act.put _ (some 35) _ = _
      simp only [Act.put, List.setIfInBounds_toArray, List.set_cons_zero, List.set_cons_succ, i64_w, i32_w]
      rfl
     refine one_ (i := 4) (N := none) #[true, true, true, true, true, false] rfl rfl (by kernel_rfl) (by decide) (fun K hK => ?_)
     have hs49 : w46.cell? ⟨gb210, 0, none⟩ = some (.slice none 0 0) := (blk_cell BK210.out 0).trans rfl
     have hfs49 := blk_frozen BK210.out 0
     have hns49_0 := NB208_210.out; have hns49_1 := NB209_210.out; have hns49_3 := NB221_210.out; have hms49_0 := NB210_208.out; have hms49_1 := NB210_209.out; have hms49_3 := NB210_221.out
     have hs50 : w46.cell? ⟨gb210, 1, none⟩ = some (.int .i64 0) := (blk_cell BK210.out 1).trans rfl
     have hfs50 := blk_frozen BK210.out 1
     have hns50_0 := NB208_210.out; have hns50_1 := NB209_210.out; have hns50_3 := NB221_210.out; have hms50_0 := NB210_208.out; have hms50_1 := NB210_209.out; have hms50_3 := NB210_221.out
     have hs51 : w46.cell? ⟨gb210, 2, none⟩ = some (.int .i64 0) := (blk_cell BK210.out 2).trans rfl
     have hfs51 := blk_frozen BK210.out 2
     have hns51_0 := NB208_210.out; have hns51_1 := NB209_210.out; have hns51_3 := NB221_210.out; have hms51_0 := NB210_208.out; have hms51_1 := NB210_209.out; have hms51_3 := NB210_221.out
     have hs52 : w46.cell? ⟨gb210, 3, none⟩ = some (.int .i64 0) := (blk_cell BK210.out 3).trans rfl
     have hfs52 := blk_frozen BK210.out 3
     have hns52_0 := NB208_210.out; have hns52_1 := NB209_210.out; have hns52_3 := NB221_210.out; have hms52_0 := NB210_208.out; have hms52_1 := NB210_209.out; have hms52_3 := NB210_221.out
     have hs53 : w46.cell? ⟨gb210, 4, none⟩ = some (.int .i64 0) := (blk_cell BK210.out 4).trans rfl
     have hfs53 := blk_frozen BK210.out 4
     have hns53_0 := NB208_210.out; have hns53_1 := NB209_210.out; have hns53_3 := NB221_210.out; have hms53_0 := NB210_208.out; have hms53_1 := NB210_209.out; have hms53_3 := NB210_221.out
     have hs54 : w46.cell? ⟨gb210, 5, none⟩ = some (.int .i64 0) := (blk_cell BK210.out 5).trans rfl
     have hfs54 := blk_frozen BK210.out 5
     have hns54_0 := NB208_210.out; have hns54_1 := NB209_210.out; have hns54_3 := NB221_210.out; have hms54_0 := NB210_208.out; have hms54_1 := NB210_209.out; have hms54_3 := NB210_221.out
     refine skip_ (w1 := ?_) (by rfl) rfl ?_ ?_
     rotate_left
     ·go_simp
      rfl
     refine hK.out _ _ ⟨((cell_far (p := ⟨gb210, _, none⟩) NB221_210.out _).trans (((cell_far (p := ⟨gb210, _, none⟩) NB221_210.out _).trans (((cell_far (p := ⟨gb210, _, none⟩) NB221_210.out _).trans (((cell_far (p := ⟨gb210, _, none⟩) NB221_210.out _).trans (((cell_far (p := ⟨gb210, _, none⟩) NB221_210.out _).trans (((cell_far (p := ⟨gb210, _, none⟩) NB221_210.out _).trans (hHeld.1)))))))))))), ((cell_far (p := ⟨gb210, _, none⟩) NB221_210.out _).trans (((cell_far (p := ⟨gb210, _, none⟩) NB221_210.out _).trans (((cell_far (p := ⟨gb210, _, none⟩) NB221_210.out _).trans (((cell_far (p := ⟨gb210, _, none⟩) NB221_210.out _).trans (((cell_far (p := ⟨gb210, _, none⟩) NB221_210.out _).trans (((cell_far (p := ⟨gb210, _, none⟩) NB221_210.out _).trans (hHeld.2.1)))))))))))), ((cell_far (p := ⟨gb210, _, none⟩) NB221_210.out _).trans (((cell_far (p := ⟨gb210, _, none⟩) NB221_210.out _).trans (((cell_far (p := ⟨gb210, _, none⟩) NB221_210.out _).trans (((cell_far (p := ⟨gb210, _, none⟩) NB221_210.out _).trans (((cell_far (p := ⟨gb210, _, none⟩) NB221_210.out _).trans (((cell_far (p := ⟨gb210, _, none⟩) NB221_210.out _).trans (hHeld.2.2.1)))))))))))), ((cell_far (p := ⟨gb210, _, none⟩) NB221_210.out _).trans (((cell_far (p := ⟨gb210, _, none⟩) NB221_210.out _).trans (((cell_far (p := ⟨gb210, _, none⟩) NB221_210.out _).trans (((cell_far (p := ⟨gb210, _, none⟩) NB221_210.out _).trans (((cell_far (p := ⟨gb210, _, none⟩) NB221_210.out _).trans (((cell_far (p := ⟨gb210, _, none⟩) NB221_210.out _).trans (hHeld.2.2.2.1)))))))))))), ((cell_far (p := ⟨gb210, _, none⟩) NB221_210.out _).trans (((cell_far (p := ⟨gb210, _, none⟩) NB221_210.out _).trans (((cell_far (p := ⟨gb210, _, none⟩) NB221_210.out _).trans (((cell_far (p := ⟨gb210, _, none⟩) NB221_210.out _).trans (((cell_far (p := ⟨gb210, _, none⟩) NB221_210.out _).trans (((cell_far (p := ⟨gb210, _, none⟩) NB221_210.out _).trans (hHeld.2.2.2.2.1)))))))))))), ((cell_far (p := ⟨gb210, _, none⟩) NB221_210.out _).trans (((cell_far (p := ⟨gb210, _, none⟩) NB221_210.out _).trans (((cell_far (p := ⟨gb210, _, none⟩) NB221_210.out _).trans (((cell_far (p := ⟨gb210, _, none⟩) NB221_210.out _).trans (((cell_far (p := ⟨gb210, _, none⟩) NB221_210.out _).trans (((cell_far (p := ⟨gb210, _, none⟩) NB221_210.out _).trans (hHeld.2.2.2.2.2))))))))))))⟩ (fun hHeld => ?_)
     clear hK K
     refine pure_ (i := 5) (N := some 7) (v := ?_) (a' := ?_) #[true, true, true, true, true, true] rfl rfl (by kernel_rfl) (fun _ _ _ h => h) (Or.inl ⟨by rfl, ?_⟩) ?_ ?_
     rotate_left
     ·intro w'
      go_simp
      with_reducible rfl
     rotate_left
     ·simp only [Act.put, List.setIfInBounds_toArray, List.set_cons_zero, List.set_cons_succ, i64_w, i32_w]
      rfl
     refine done_ (by kernel_rfl) ?_
     try go_wp2
     refine bodyPost_ret (results_ct rfl _ _ gb210 90 #[.slice Ao48 t225.length co48, .int .i64 t228, .int .i64 t229, .int .i64 t230, .int .i64 t231, .int .i64 t232] (0, 0) _ rfl (by (with_reducible repeat (first | refine blk_drewN ?_ _ | refine blk_drew ?_ | refine blk_alloc ?_ _)); exact blk_fill6 BK210.out) Try.underlying90 rfl (by kernel_rfl)) rfl ?_
     exact ⟨_, _, by first | rfl | (simp [errW_none, errW_some] <;> rfl) | (simp [*, errW_none, errW_some] <;> rfl), by exact Kd.R_mono (Kd.R_farN HO227.out BK210.out) (fun _ hk => hk.2), by exact Kd.R_mono (Kd.R_farN HO238.out BK210.out) (fun _ hk => hk.2), by exact bel0⟩
    ·rw [if_neg c28] at H
     exact absurd H (by simp)

/-! ### laws_toIntS: function 121 -/
def laws_toIntS.l0 : Nat → List Int → List Int → Int → Option (List Int)
  | 0, _, _, _ => none
  | k + 1, x0, x3, x4 => if x4 < (x0.length : Int) then (if 0 ≤ x4 then (if x4 < (x3.length : Int) then (laws_toIntS.l0 k x0 (x3.set (x4 : Int).toNat (rd x0 x4)) (wrap64 (x4 + 1))) else (none)) else (none)) else (some x3)
def laws_toIntS.f (k : Nat) (l0 : List Int) : Option (List Int) := if 0 ≤ (l0.length : Int) then (if ((l0.length : Int) : Int).toNat ≤ 35184372088832 then (laws_toIntS.l0 k l0 (List.replicate ((l0.length : Int) : Int).toNat 0) 0) else (none)) else (none)
theorem laws_toIntS.mono_l : ∀ k, (∀ y0 y1 y2, LeO (laws_toIntS.l0 k y0 y1 y2) (laws_toIntS.l0 (k + 1) y0 y1 y2))
 | 0 => fun _ _ _ r h => by simp [laws_toIntS.l0] at h
 | k + 1 => by
  have ih0 := laws_toIntS.mono_l k
  ·intro y0 y1 y2
   unfold laws_toIntS.l0
   repeat' first
   | (with_reducible exact ih0 _ _ _)
   | (with_reducible exact LeO.refl _)
   | (with_reducible exact LeO.none _)
   | (with_reducible refine LeO.ite ?_ ?_)
   | (with_reducible refine LeO.bind ?_ (fun _ => ?_))
   | exact ih0 _ _ _
   | exact LeO.none _
   | refine LeO.ite ?_ ?_
   | refine LeO.bind ?_ (fun _ => ?_)
theorem laws_toIntS.mono : ∀ a0 k, LeO (laws_toIntS.f k a0) (laws_toIntS.f (k + 1) a0) := by
 intro a0 k
 have ih0 := laws_toIntS.mono_l k
 unfold laws_toIntS.f
 repeat' first
   | (with_reducible exact ih0 _ _ _)
   | (with_reducible exact LeO.refl _)
   | (with_reducible exact LeO.none _)
   | (with_reducible refine LeO.ite ?_ ?_)
   | (with_reducible refine LeO.bind ?_ (fun _ => ?_))
   | exact ih0 _ _ _
   | exact LeO.none _
   | refine LeO.ite ?_ ?_
   | refine LeO.bind ?_ (fun _ => ?_)
set_option maxHeartbeats 8000000 in
set_option maxRecDepth 100000 in
theorem laws_toIntS.calls (k : Nat) (A0 : Option Addr) (c0 : Nat) (l0 : List Int) (r : List Int) (w : World) (hr0 : Kd.C (Kd.int .i64) w A0 l0.length l0) (hc0 : l0.length ≤ c0) (h : laws_toIntS.f k l0 = some r) :
  Calls Try.prog 121 #[.slice A0 l0.length c0] w fun e w' => ∃ v0_ : Value, e = .returned (v0_) ∧ Kd.R (Kd.int .i64) 3 w' w.heap.size (fun _ => True) v0_ r ∧ Below w.heap.size w w' := by
 have HR0 := Aside0.mk hr0; have HC0 := Aside0.mk hc0; clear hr0 hc0
 have HB := Aside0.mk (Below.refl w.heap.size w)
 have H : (if 0 ≤ (l0.length : Int) then (if ((l0.length : Int) : Int).toNat ≤ 35184372088832 then (laws_toIntS.l0 k l0 (List.replicate ((l0.length : Int) : Int).toNat 0) 0) else (none)) else (none)) = some r := h
 clear h
 by_cases c2 : 0 ≤ (l0.length : Int)
 ·rw [if_pos c2] at H
  have c2b0 := eq_true c2
  have c2b1 : decide (0 ≤ (l0.length : Int)) = true := decide_eq_true c2
  clear c2
  by_cases c3 : ((l0.length : Int) : Int).toNat ≤ 35184372088832
  ·rw [if_pos c3] at H
   have c3b0 := eq_true c3
   have c3b1 : decide (((l0.length : Int) : Int).toNat ≤ 35184372088832) = true := decide_eq_true c3
   clear c3
   obtain ⟨y239, hy239⟩ : ∃ y_ : List Int, y_ = (List.replicate ((l0.length : Int) : Int).toNat 0) := ⟨_, rfl⟩
   replace H : (laws_toIntS.l0 k l0 y239 0) = some r := by first | (rw [hy239]; with_reducible exact H) | (have H2_ := (Option.bind_some _ _).symm.trans H; rw [hy239]; with_reducible exact H2_) | (have H2_ := (Option.bind_some _ _).symm.trans H; with_reducible exact H2_) | with_reducible exact H | (rw [hy239]; exact H) | exact H
   have Ny239 := Aside0.mk hy239; clear hy239
   have H' := Aside0.mk H
   clear H; go_enter Try.func121, Try.ntmps121
   go_wp2_with (first | ((with_reducible refine gate_dst (N := 7) rfl ?_); refine Kd.R_make (Kd.int .i64) _ 3 rfl (N := 7) rfl 63 _ _ rfl (l0.length : Int) rfl rfl Try.underlying63 (.int .i64 0) 8 info3 rfl (by decide) (by omega) 0 (ok := fun _ => True) (okp := fun _ => True) rfl (fun _ hk => hk) trivial (of_decide_eq_true (by first | (with_reducible assumption) | assumption)) (Nat.le_trans (Nat.mul_le_mul_right _ (of_decide_eq_true (by first | (with_reducible assumption) | assumption) : (l0.length : Int).toNat ≤ 35184372088832)) (by omega)) (Below.refl _ _) (Nat.le_refl _) ?_; intro v240 w4 ho5 hb hg_ hnew_; clear hg_ hnew_; (first | rw [← Ny239.out] at ho5 | (simp only [Int.reduceToNat] at ho5; rw [← Ny239.out] at ho5)); have n_ := an (Kd.R_lower ho5 (below_size (by exact bel0))) (an (below_step (by exact bel0) hb) (trivial)); clear HB; obtain ⟨HO241, HB, -⟩ := n_; clear hb ho5))
   go_loopg [4] k (fun kq v4 w' => ∃ (x3_1 : List Int) (x4_1 : Int), v4 = .int .i64 x4_1 ∧ Aside0 (laws_toIntS.l0 kq l0 x3_1 x4_1 = some r) ∧ Aside0 (kq ≤ k) ∧ Aside0 (Kd.R (Kd.int .i64) 3 w' w.heap.size (fun _ => True) v240 x3_1) ∧ Aside0 (Below w.heap.size w w'))
   case atStart => exact ⟨(y239), (0), (by first | rfl | (simp; done) | (simp [*]; done)), H', ⟨Nat.le_refl _⟩, ⟨by exact Kd.R_nw HO241.out⟩, ⟨by exact bel0⟩⟩
   case round =>
    clear H'
    try clear c1; try clear c2; try clear c2b0; try clear c2b1; try clear p2; try clear c3; try clear c3b0; try clear c3b1
    obtain ⟨x3_1, x4_1, rfl, HA, HK1, HO_3, HB⟩ := hrel
    cases gk with
    | zero => exact absurd HA.out (by simp [laws_toIntS.l0])
    | succ k1 =>
     have H := HA.out; clear HA
     simp only [laws_toIntS.l0] at H
     by_cases c6 : x4_1 < (l0.length : Int)
     ·rw [if_pos c6] at H
      have c6b0 : decide (x4_1 < (l0.length : Int)) = true := decide_eq_true c6
      clear c6; (try simp only [c6b0])
      by_cases c7 : 0 ≤ x4_1
      ·rw [if_pos c7] at H; have c7b0 : decide (0 ≤ x4_1) = true := decide_eq_true c7; clear c7; (try simp only [c7b0])
       by_cases c8 : x4_1 < (x3_1.length : Int)
       ·rw [if_pos c8] at H
        have c8b0 : decide (x4_1 < (x3_1.length : Int)) = true := decide_eq_true c8
        clear c8; (try simp only [c8b0])
        obtain ⟨y243, hy243⟩ : ∃ y_ : List Int, y_ = (x3_1.set (x4_1 : Int).toNat (rd l0 x4_1)) := ⟨_, rfl⟩
        replace H : (laws_toIntS.l0 k1 l0 y243 (wrap64 (x4_1 + 1))) = some r := by first | (rw [hy243]; with_reducible exact H) | (have H2_ := (Option.bind_some _ _).symm.trans H; rw [hy243]; with_reducible exact H2_) | (have H2_ := (Option.bind_some _ _).symm.trans H; with_reducible exact H2_) | with_reducible exact H | (rw [hy243]; exact H) | exact H
        have Ny243 := Aside0.mk hy243; clear hy243
        have H' := Aside0.mk H
        clear H
        have p242 : 0 ≤ (x4_1 : Int) := of_decide_eq_true (by first | (with_reducible assumption) | assumption)
        have q242 : x4_1 < (l0.length : Int) := of_decide_eq_true (by first | (with_reducible assumption) | assumption)
        obtain ⟨ad242, e242, hx242_0⟩ := Kd.at_int HR0.out x4_1 p242 q242
        cases e242
        replace hx242_0 := (HB.out.cell (World.block_lt_of_cell? w _ hx242_0)).trans hx242_0
        replace p242 := eq_true p242
        replace q242 := eq_true q242
        have p9 : 0 ≤ (x4_1 : Int) := of_decide_eq_true (by first | (with_reducible assumption) | assumption)
        have q9 : (x4_1 : Int) < ((x3_1.length : Int) : Int) := of_decide_eq_true (by first | (with_reducible assumption) | assumption)
        obtain ⟨go9, co9, eo9, gb9, gl9, cl9, HG9⟩ := Kd.R_form HO_3.out (by omega)
        (first | cases eo9 | (injection eo9 with ea_ en_ ec_; (first | subst ea_ | (injection ea_ with ea_; subst ea_)); subst ec_; clear en_))
        have GB9 := Aside0.mk gb9; have GG9 := Aside0.mk HG9; clear gb9 gl9 HG9
        obtain ⟨hx9_0, hf9_0⟩ := Kd.R_celln 0 HO_3.out (x4_1 : Int) p9 q9
        replace p9 := eq_true p9
        replace q9 := eq_true q9
        have HP10 := Kd.R_putg HO_3.out (x4_1 : Int) (rd l0 x4_1)
        go_wp2_with (first | ((with_reducible refine gate_store (t := 3) (p := 20) rfl ?_); refine store_event (t := 3) (p := 20) (v := ?vo_w11) (w1 := (wr.setCell ⟨go9, (x4_1 : Int).toNat, none⟩ (.int .i64 (rd l0 x4_1)))) ?hg ?ho ?hn ?hr ?_; (case ho => rfl); (case hg => rfl); (case hn => rfl); (case hr => first | (go_simp; done) | (go_simp; rfl)); intro w11 hw; have hg : wr.grownBy w11 (some go9) := (by rw [hw]; exact HP10.2); have hp_ : Kd.R (Kd.int .i64) 3 w11 w.heap.size (fun _ => True) (.slice (some ⟨go9, 0, none⟩) x3_1.length co9) y243 := (by rw [hw, Ny243.out]; exact HP10.1); clear HP10; have n_ := an (hp_) (an ((by rw [hw]; exact below_set (HB.out) GB9.out : Below w.heap.size w w11)) (trivial)); clear HO_3 HB; obtain ⟨HO_3, HB, -⟩ := n_; clear hg hw hp_))
        go_roundg k1
        case measure => have := HK1.out; omega
        case rel => exact ⟨(y243), (wrap64 (x4_1 + 1)), (by first | rfl | (simp; done) | (simp [*]; done)), H', ⟨by have := HK1.out; omega⟩, ⟨by exact Kd.R_nw HO_3.out⟩, ⟨by exact bel0⟩⟩
       ·rw [if_neg c8] at H
        exact absurd H (by simp)
      ·rw [if_neg c7] at H
       exact absurd H (by simp)
     ·rw [if_neg c6] at H
      have c6b0 : decide (x4_1 < (l0.length : Int)) = false := decide_eq_false c6
      clear c6; (try simp only [c6b0])
      obtain rfl := Option.some.inj H
      go_wp2
      go_ret
      exact ⟨_, by first | rfl | (simp [errW_none, errW_some] <;> rfl) | (simp [*, errW_none, errW_some] <;> rfl), by exact Kd.R_nw HO_3.out, by exact bel0⟩
  ·rw [if_neg c3] at H
   exact absurd H (by simp)
 ·rw [if_neg c2] at H
  exact absurd H (by simp)

/-! ### laws_toProber: function 58 -/
def laws_toProber.f (k : Nat) (l0_0 : List Int) (a0_1 : Int) (a0_2 : Int) (a0_3 : Int) (a0_4 : Int) (a0_5 : Int) : Option (List Int × Int × Int × Int × Int × Int) := (laws_toIntS.f k l0_0).bind fun t247 => (some (t247, a0_1, a0_2, a0_3, a0_4, a0_5))
theorem laws_toProber.mono : ∀ a0 a1 a2 a3 a4 a5 k, LeO (laws_toProber.f k a0 a1 a2 a3 a4 a5) (laws_toProber.f (k + 1) a0 a1 a2 a3 a4 a5) := by
 intro a0 a1 a2 a3 a4 a5 k
 unfold laws_toProber.f
 repeat' first
   | (with_reducible exact laws_toIntS.mono _ _)
   | (with_reducible exact LeO.refl _)
   | (with_reducible exact LeO.none _)
   | (with_reducible refine LeO.ite ?_ ?_)
   | (with_reducible refine LeO.bind ?_ (fun _ => ?_))
   | exact laws_toIntS.mono _ _
   | exact LeO.none _
   | refine LeO.ite ?_ ?_
   | refine LeO.bind ?_ (fun _ => ?_)
set_option maxHeartbeats 8000000 in
set_option maxRecDepth 100000 in
theorem laws_toProber.calls (k : Nat) (A0_0 : Option Addr) (c0_0 : Nat) (l0_0 : List Int) (a0_1 : Int) (a0_2 : Int) (a0_3 : Int) (a0_4 : Int) (a0_5 : Int) (r1 : List Int) (r2 : Int) (r3 : Int) (r4 : Int) (r5 : Int) (r6 : Int) (w : World) (hr0_0 : Kd.C (Kd.int .i64) w A0_0 l0_0.length l0_0) (hc0_0 : l0_0.length ≤ c0_0) (h : laws_toProber.f k l0_0 a0_1 a0_2 a0_3 a0_4 a0_5 = some (r1, r2, r3, r4, r5, r6)) :
  Calls Try.prog 58 #[.agg #[.slice A0_0 l0_0.length c0_0, .int .i64 a0_1, .int .i64 a0_2, .int .i64 a0_3, .int .i64 a0_4, .int .i64 a0_5]] w fun e w' => ∃ v0_ : Value, e = .returned (.agg #[v0_, .int .i64 r2, .int .i64 r3, .int .i64 r4, .int .i64 r5, .int .i64 r6]) ∧ Kd.R (Kd.int .i64) 3 w' w.heap.size (fun _ => True) v0_ r1 ∧ Below w.heap.size w w' := by
 have hu88 := Try.underlying88
 have hu90 := Try.underlying90
 have HR0_0 := Aside0.mk hr0_0; have HC0_0 := Aside0.mk hc0_0; clear hr0_0 hc0_0
 have HB := Aside0.mk (Below.refl w.heap.size w)
 have H : ((laws_toIntS.f k l0_0).bind fun t247 => (some (t247, a0_1, a0_2, a0_3, a0_4, a0_5))) = some (r1, r2, r3, r4, r5, r6) := h
 clear h; replace H := Option.bind_eq_some_iff.mp H; obtain ⟨t247, A20, H⟩ := H; have A2 := Aside0.mk A20; clear A20; simp only [Option.some.injEq, Prod.mk.injEq] at H; obtain ⟨rfl, rfl, rfl, rfl, rfl, rfl⟩ := H; go_enter Try.func58, Try.ntmps58
 go_wp2_with (first | ((with_reducible refine gate_dst (N := 1) rfl ?_); refine box_event ?hg (N := 1) ?hd (cs := #[.slice A0_0 l0_0.length c0_0, .int .i64 a0_1, .int .i64 a0_2, .int .i64 a0_3, .int .i64 a0_4, .int .i64 a0_5]) (t := 88) ?hr ?_; (case hd => rfl); (case hg => rfl); (case hr => first | (go_simp; done) | (go_simp; rfl)); intro gb244 hg w3 hbox hb; have n_ := an (below_step (by exact bel0) hb) (an (hbox) (an ((by rw [hg]; exact (below_size (by exact bel0)) : w.heap.size ≤ gb244)) (an ((by rw [hg]; exact (below_size (by exact bel0)) : w.heap.size ≤ gb244)) (trivial)))); clear HB; obtain ⟨HB, BK244, GW244, GE244, -⟩ := n_; clear hb hbox hg) | ((with_reducible refine gate_dst (N := 2) rfl ?_); refine box_event ?hg (N := 2) ?hd (cs := #[.slice none 0 0, .int .i64 0, .int .i64 0, .int .i64 0, .int .i64 0, .int .i64 0]) (t := 90) ?hr ?_; (case hd => rfl); (case hg => rfl); (case hr => first | (go_simp; done) | (go_simp; rfl)); intro gb245 hg w4 hbox hb; have n_ := an (blk_below (blk_nw BK244.out) hb) (an (below_step (by exact bel0) hb) (an (hbox) (an ((by rw [hg]; exact (below_size (by exact bel0)) : w.heap.size ≤ gb245)) (an ((by rw [hg]; exact (below_size (by exact bel0)) : w.heap.size ≤ gb245)) (an ((by rw [hg]; exact Nat.ne_of_lt (blk_lt (blk_nw BK244.out)) : gb244 ≠ gb245)) (an ((by rw [hg]; exact Nat.ne_of_gt (blk_lt (blk_nw BK244.out)) : gb245 ≠ gb244)) (trivial))))))); clear BK244 HB; obtain ⟨BK244, HB, BK245, GW245, GE245, NB244_245, NB245_244, -⟩ := n_; clear hb hbox hg) | ((with_reducible refine gate_dst (N := 3) rfl ?_); refine box_event ?hg (N := 3) ?hd (cs := #[.slice none 0 0, .int .i64 0, .int .i64 0, .int .i64 0, .int .i64 0, .int .i64 0]) (t := 90) ?hr ?_; (case hd => rfl); (case hg => rfl); (case hr => first | (go_simp; done) | (go_simp; rfl)); intro gb246 hg w5 hbox hb; have n_ := an (blk_below (blk_nw BK244.out) hb) (an (blk_below (blk_nw BK245.out) hb) (an (below_step (by exact bel0) hb) (an (hbox) (an ((by rw [hg]; exact (below_size (by exact bel0)) : w.heap.size ≤ gb246)) (an ((by rw [hg]; exact (below_size (by exact bel0)) : w.heap.size ≤ gb246)) (an ((by rw [hg]; exact Nat.ne_of_lt (blk_lt (blk_nw BK244.out)) : gb244 ≠ gb246)) (an ((by rw [hg]; exact Nat.ne_of_gt (blk_lt (blk_nw BK244.out)) : gb246 ≠ gb244)) (an ((by rw [hg]; exact Nat.ne_of_lt (blk_lt (blk_nw BK245.out)) : gb245 ≠ gb246)) (an ((by rw [hg]; exact Nat.ne_of_gt (blk_lt (blk_nw BK245.out)) : gb246 ≠ gb245)) (trivial)))))))))); clear BK244 BK245 HB; obtain ⟨BK244, BK245, HB, BK246, GW246, GE246, NB244_246, NB246_244, NB245_246, NB246_245, -⟩ := n_; clear hb hbox hg; have hnb6 := NB244_245.out; have hnc6 := NB245_244.out; have hnb7 := NB244_246.out; have hnc7 := NB246_244.out; obtain ⟨hcz8_0, hcz8_1, hcz8_2, hcz8_3, hcz8_4, hcz8_5⟩ := blkz6 BK244.out; have hfz8_0 := blkf BK244.out) | ((with_reducible refine gate_callee (f := 121) rfl ?_); refine goesL_ (some 6) rfl rfl Try.func121 (by kernel_rfl) rfl #[.slice A0_0 l0_0.length c0_0] rfl (by (try simp only [List.map_toArray, List.map_cons, List.map_nil]); first | done | rfl | (simp only [List.length_drop, List.length_take]; rfl)) ?_; (with_reducible refine (laws_toIntS.calls k _ _ l0_0 t247 _ ?side1 ?side2 A2.out).mono ?_); (case side1 => repeat (first | exact (Kd.C_below HR0_0.out HB.out) | (with_reducible refine Kd.C_alloc ?_ _) | (with_reducible refine Kd.C_drewN ?_ _) | (with_reducible refine Kd.C_drew ?_))); (case side2 => exact HC0_0.out); rintro e w9 ⟨v248, rfl, ho0, hb⟩; refine ⟨_, rfl, ?_⟩; have n_ := an (Kd.R_lower ho0 (below_size (by exact bel0))) (an (blk_below (blk_nw BK244.out) hb) (an (blk_below (blk_nw BK245.out) hb) (an (blk_below (blk_nw BK246.out) hb) (an (below_step (by exact bel0) hb) (trivial))))); clear BK244 BK245 BK246 HB; obtain ⟨HO249, BK244, BK245, BK246, HB, -⟩ := n_; (try clear hb); (try clear hb2); (try clear hk); (try clear hi); (try clear ho0); obtain ⟨Ao10, co10, eo10⟩ := Kd.R_slice HO249.out; subst eo10; have hnb11 := NB246_245.out; have hnc11 := NB245_246.out; obtain ⟨hcz12_0, hcz12_1, hcz12_2, hcz12_3, hcz12_4, hcz12_5⟩ := blkz6 BK246.out; have hfz12_0 := blkf BK246.out; obtain ⟨hcz13_0, hcz13_1, hcz13_2, hcz13_3, hcz13_4, hcz13_5⟩ := blkz6 BK244.out; have hfz13_0 := blkf BK244.out; obtain ⟨hcz14_0, hcz14_1, hcz14_2, hcz14_3, hcz14_4, hcz14_5⟩ := blkz6 BK245.out; have hfz14_0 := blkf BK245.out))
 refine bodyPost_ret (results_cell_row rfl _ _ gb245 90 #[.slice Ao10 t247.length co10, .int .i64 a0_1, .int .i64 a0_2, .int .i64 a0_3, .int .i64 a0_4, .int .i64 a0_5] (0, 0) _ rfl (by (with_reducible repeat (first | refine blk_drewN ?_ _ | refine blk_drew ?_ | refine blk_alloc ?_ _)); refine blk_put (cs := #[.slice Ao10 t247.length co10, .int .i64 a0_1, .int .i64 a0_2, .int .i64 a0_3, .int .i64 a0_4, .int .i64 0]) ?_ 5 _ rfl; (with_reducible repeat (first | refine blk_drewN ?_ _ | refine blk_drew ?_ | refine blk_alloc ?_ _)); refine blk_put (cs := #[.slice Ao10 t247.length co10, .int .i64 a0_1, .int .i64 a0_2, .int .i64 a0_3, .int .i64 0, .int .i64 0]) ?_ 4 _ rfl; (with_reducible repeat (first | refine blk_drewN ?_ _ | refine blk_drew ?_ | refine blk_alloc ?_ _)); refine blk_put (cs := #[.slice Ao10 t247.length co10, .int .i64 a0_1, .int .i64 a0_2, .int .i64 0, .int .i64 0, .int .i64 0]) ?_ 3 _ rfl; (with_reducible repeat (first | refine blk_drewN ?_ _ | refine blk_drew ?_ | refine blk_alloc ?_ _)); refine blk_put (cs := #[.slice Ao10 t247.length co10, .int .i64 a0_1, .int .i64 0, .int .i64 0, .int .i64 0, .int .i64 0]) ?_ 2 _ rfl; (with_reducible repeat (first | refine blk_drewN ?_ _ | refine blk_drew ?_ | refine blk_alloc ?_ _)); refine blk_put (cs := #[.slice Ao10 t247.length co10, .int .i64 0, .int .i64 0, .int .i64 0, .int .i64 0, .int .i64 0]) ?_ 1 _ rfl; (with_reducible repeat (first | refine blk_drewN ?_ _ | refine blk_drew ?_ | refine blk_alloc ?_ _)); refine blk_put (cs := #[.slice none 0 0, .int .i64 0, .int .i64 0, .int .i64 0, .int .i64 0, .int .i64 0]) ?_ 0 _ rfl; (with_reducible repeat (first | refine blk_drewN ?_ _ | refine blk_drew ?_ | refine blk_alloc ?_ _)); refine blk_far ?_ NB245_246.out _; (with_reducible repeat (first | refine blk_drewN ?_ _ | refine blk_drew ?_ | refine blk_alloc ?_ _)); refine blk_far ?_ NB245_246.out _; (with_reducible repeat (first | refine blk_drewN ?_ _ | refine blk_drew ?_ | refine blk_alloc ?_ _)); refine blk_far ?_ NB245_246.out _; (with_reducible repeat (first | refine blk_drewN ?_ _ | refine blk_drew ?_ | refine blk_alloc ?_ _)); refine blk_far ?_ NB245_246.out _; (with_reducible repeat (first | refine blk_drewN ?_ _ | refine blk_drew ?_ | refine blk_alloc ?_ _)); refine blk_far ?_ NB245_246.out _; (with_reducible repeat (first | refine blk_drewN ?_ _ | refine blk_drew ?_ | refine blk_alloc ?_ _)); refine blk_far ?_ NB245_246.out _; (with_reducible repeat (first | refine blk_drewN ?_ _ | refine blk_drew ?_ | refine blk_alloc ?_ _)); exact BK245.out) Try.underlying90 rfl (by kernel_rfl)) rfl ?_
 exact ⟨_, by first | rfl | (simp [errW_none, errW_some] <;> rfl) | (simp [*, errW_none, errW_some] <;> rfl), by (with_reducible repeat (first | apply Kd.R_alloc | apply Kd.R_drewN | apply Kd.R_drew)); exact Kd.R_mono (Kd.R_far (p := ⟨gb245, 5, none⟩) (Kd.R_far (p := ⟨gb245, 4, none⟩) (Kd.R_far (p := ⟨gb245, 3, none⟩) (Kd.R_far (p := ⟨gb245, 2, none⟩) (Kd.R_far (p := ⟨gb245, 1, none⟩) (Kd.R_far (p := ⟨gb245, 0, none⟩) (Kd.R_far (p := ⟨gb246, 5, none⟩) (Kd.R_far (p := ⟨gb246, 4, none⟩) (Kd.R_far (p := ⟨gb246, 3, none⟩) (Kd.R_far (p := ⟨gb246, 2, none⟩) (Kd.R_far (p := ⟨gb246, 1, none⟩) (Kd.R_far (p := ⟨gb246, 0, none⟩) (Kd.R_types (Kd.R_types HO249.out BK246.out (by decide)) BK245.out (by decide)) (fun _ hk => hk.1.2) (.slice Ao10 t247.length co10)) (fun _ hk => hk.1.2) (.int .i64 a0_1)) (fun _ hk => hk.1.2) (.int .i64 a0_2)) (fun _ hk => hk.1.2) (.int .i64 a0_3)) (fun _ hk => hk.1.2) (.int .i64 a0_4)) (fun _ hk => hk.1.2) (.int .i64 a0_5)) (fun _ hk => hk.2) (.slice Ao10 t247.length co10)) (fun _ hk => hk.2) (.int .i64 a0_1)) (fun _ hk => hk.2) (.int .i64 a0_2)) (fun _ hk => hk.2) (.int .i64 a0_3)) (fun _ hk => hk.2) (.int .i64 a0_4)) (fun _ hk => hk.2) (.int .i64 a0_5)) (fun _ hk => trivial), by exact bel0⟩

/-! ### impl_within: function 72 -/
def impl_within.f (a0 : Int) (a1 : Int) (a2 : Int) : Option (Bool) := if a1 ≤ a0 then (some (decide (a0 ≤ a2))) else (some false)
set_option maxHeartbeats 8000000 in
set_option maxRecDepth 100000 in
theorem impl_within.calls (a0 : Int) (a1 : Int) (a2 : Int) (r : Bool) (w : World) (h : impl_within.f a0 a1 a2 = some r) :
  Calls Try.prog 72 #[.int .i64 a0, .int .i64 a1, .int .i64 a2] w fun e w' => e = .returned (.bool r) ∧ Drawn0 w w' := by
 have H : (if a1 ≤ a0 then (some (decide (a0 ≤ a2))) else (some false)) = some r := h
 clear h
 by_cases c4 : a1 ≤ a0
 ·rw [if_pos c4] at H; have c4b0 : decide (a1 ≤ a0) = true := decide_eq_true c4; clear c4; (try simp only [c4b0])
  obtain rfl := Option.some.inj H
  go_enter Try.func72, Try.ntmps72
  go_wp2
  go_ret
  exact ⟨by first | rfl | (simp; done) | (simp [*]; done), by repeat (first | exact Drawn0.refl _ | apply Drawn0.step)⟩
 ·rw [if_neg c4] at H; have c4b0 : decide (a1 ≤ a0) = false := decide_eq_false c4; clear c4; (try simp only [c4b0])
  obtain rfl := Option.some.inj H
  go_enter Try.func72, Try.ntmps72
  go_wp2
  go_ret
  exact ⟨by first | rfl | (simp; done) | (simp [*]; done), by repeat (first | exact Drawn0.refl _ | apply Drawn0.step)⟩

/-! ### impl_MemberOk: function 114 -/
def impl_MemberOk.f (a0_0 : Int) (a0_1 : Int) (a0_2 : Int) : Option (Bool) := (impl_within.f a0_0 0 11).bind fun t251 => (if t251 = true then ((impl_within.f a0_1 0 3).bind fun t252 => (if t252 = true then ((impl_within.f a0_2 0 1000).bind fun t253 => (some t253)) else (some false))) else (some false))
set_option maxHeartbeats 8000000 in
set_option maxRecDepth 100000 in
theorem impl_MemberOk.calls (a0_0 : Int) (a0_1 : Int) (a0_2 : Int) (r : Bool) (w : World) (h : impl_MemberOk.f a0_0 a0_1 a0_2 = some r) :
  Calls Try.prog 114 #[.agg #[.int .i64 a0_0, .int .i64 a0_1, .int .i64 a0_2]] w fun e w' => e = .returned (.bool r) ∧ Below w.heap.size w w' := by
 have hu82 := Try.underlying82
 have HB := Aside0.mk (Below.refl w.heap.size w)
 have H : ((impl_within.f a0_0 0 11).bind fun t251 => (if t251 = true then ((impl_within.f a0_1 0 3).bind fun t252 => (if t252 = true then ((impl_within.f a0_2 0 1000).bind fun t253 => (some t253)) else (some false))) else (some false))) = some r := h
 clear h; replace H := Option.bind_eq_some_iff.mp H; obtain ⟨t251, A20, H⟩ := H; have A2 := Aside0.mk A20; clear A20; go_enter Try.func114, Try.ntmps114
 replace H := Aside0.mk H
 go_wp2_with (first | ((with_reducible refine gate_dst (N := 1) rfl ?_); refine box_event ?hg (N := 1) ?hd (cs := #[.int .i64 a0_0, .int .i64 a0_1, .int .i64 a0_2]) (t := 82) ?hr ?_; (case hd => rfl); (case hg => rfl); (case hr => first | (go_simp; done) | (go_simp; rfl)); intro gb250 hg w3 hbox hb; have n_ := an (below_step (by exact bel0) hb) (an (hbox) (an ((by rw [hg]; exact (below_size (by exact bel0)) : w.heap.size ≤ gb250)) (an ((by rw [hg]; exact (below_size (by exact bel0)) : w.heap.size ≤ gb250)) (trivial)))); clear HB; obtain ⟨HB, BK250, GW250, GE250, -⟩ := n_; clear hb hbox hg; obtain ⟨hcz4_0, hcz4_1, hcz4_2⟩ := blkz3 BK250.out; have hfz4_0 := blkf BK250.out) | ((with_reducible refine gate_callee (f := 72) rfl ?_); refine goesL_ (some 5) rfl rfl Try.func72 (by kernel_rfl) rfl #[.int .i64 a0_0, .int .i64 0, .int .i64 11] rfl (by (try simp only [List.map_toArray, List.map_cons, List.map_nil]); first | done | rfl | (simp only [List.length_drop, List.length_take]; rfl)) ?_; (with_reducible refine (impl_within.calls a0_0 0 11 t251 _ A2.out).mono ?_); rintro e w' ⟨rfl, ⟨nd, rfl⟩⟩; refine ⟨_, rfl, ?_⟩; refine Stop.out ?_))
 refine Stop.mk ?_
 replace H := H.out
 by_cases c5 : t251 = true
 ·subst c5; rw [if_pos rfl] at H; replace H := Option.bind_eq_some_iff.mp H; obtain ⟨t252, A60, H⟩ := H; have A6 := Aside0.mk A60; clear A60; obtain ⟨hcz7_0, hcz7_1, hcz7_2⟩ := blkz3 BK250.out; have hfz7_0 := blkf BK250.out
  replace H := Aside0.mk H
  go_wp2_with (first | (go_at_call 72; (with_reducible refine (impl_within.calls a0_1 0 3 t252 _ A6.out).mono ?_); rintro e w' ⟨rfl, ⟨nd, rfl⟩⟩; refine Stop.out ?_))
  refine Stop.mk ?_
  replace H := H.out
  by_cases c8 : t252 = true
  ·subst c8; rw [if_pos rfl] at H; replace H := Option.bind_eq_some_iff.mp H; obtain ⟨t253, A90, H⟩ := H; have A9 := Aside0.mk A90; clear A90
   obtain rfl := Option.some.inj H
   obtain ⟨hcz10_0, hcz10_1, hcz10_2⟩ := blkz3 BK250.out; have hfz10_0 := blkf BK250.out
   go_wp2_with (first | (go_at_call 72; (with_reducible refine (impl_within.calls a0_2 0 1000 t253 _ A9.out).mono ?_); rintro e w' ⟨rfl, ⟨nd, rfl⟩⟩))
   go_ret
   exact ⟨by first | rfl | (simp [errW_none, errW_some] <;> rfl) | (simp [*, errW_none, errW_some] <;> rfl), by exact bel0⟩
  ·replace c8 := Bool.eq_false_iff.mpr c8
   subst c8
   rw [if_neg (show ¬ (false = true) by decide)] at H
   obtain rfl := Option.some.inj H
   go_wp2
   go_ret
   exact ⟨by first | rfl | (simp [errW_none, errW_some] <;> rfl) | (simp [*, errW_none, errW_some] <;> rfl), by exact bel0⟩
 ·replace c5 := Bool.eq_false_iff.mpr c5
  subst c5
  rw [if_neg (show ¬ (false = true) by decide)] at H
  obtain rfl := Option.some.inj H
  go_wp2
  go_ret
  exact ⟨by first | rfl | (simp [errW_none, errW_some] <;> rfl) | (simp [*, errW_none, errW_some] <;> rfl), by exact bel0⟩

-- NOT PRINTED: function 170 (impl_Member_int)

/-! ### impl_Table_member: function 133 -/
def impl_Table_member.cmpI (a b : Int) : Int := if a < b then -1 else if a > b then 1 else 0
theorem impl_Table_member.nan_calls (x : Int) (w : World) : Calls Try.prog 191 #[.int .i64 x] w fun e w' => e = .returned (.bool false) ∧ w' = w := by
 go_enter Try.func191, Try.ntmps191
 go_wp2
 go_ret
 exact ⟨by simp, rfl⟩
theorem impl_Table_member.cmp_calls (x y : Int) (w : World) : Calls Try.prog 172 #[.int .i64 x, .int .i64 y] w fun e w' => e = .returned (.int .i64 (impl_Table_member.cmpI x y)) ∧ w' = w := by
 go_enter Try.func172, Try.ntmps172
 by_cases h1 : x < y
 ·have d1 : decide (x < y) = true := decide_eq_true h1
  go_wp2_with (go_at_call 191; refine (impl_Table_member.nan_calls _ _).mono ?_; rintro e w' ⟨rfl, rfl⟩)
  go_ret
  exact ⟨by simp [impl_Table_member.cmpI, h1], rfl⟩
 ·have d1 : decide (x < y) = false := decide_eq_false h1
  by_cases h2 : y < x
  ·have d2 : decide (y < x) = true := decide_eq_true h2
   go_wp2_with (go_at_call 191; refine (impl_Table_member.nan_calls _ _).mono ?_; rintro e w' ⟨rfl, rfl⟩)
   go_ret
   exact ⟨by simp [impl_Table_member.cmpI, h1, h2], rfl⟩
  ·have d2 : decide (y < x) = false := decide_eq_false h2
   go_wp2_with (go_at_call 191; refine (impl_Table_member.nan_calls _ _).mono ?_; rintro e w' ⟨rfl, rfl⟩)
   go_ret
   refine ⟨?_, rfl⟩
   show Ending.returned (.int .i64 0) = .returned (.int .i64 (impl_Table_member.cmpI x y))
   unfold impl_Table_member.cmpI
   rw [if_neg (by omega), if_neg (by omega)]
theorem impl_Table_member.key_calls (a0 a1 a2 id : Int) (w : World) : Calls Try.prog 171 #[.agg #[.int .i64 a0, .int .i64 a1, .int .i64 a2], .int .i64 id] w fun e w' => e = .returned (.int .i64 (impl_Table_member.cmpI a0 id)) ∧ Below w.heap.size w w' := by
 have hu82 := Try.underlying82
 go_enter Try.func171, Try.ntmps171
 go_wp2_with (go_at_call 172; refine (impl_Table_member.cmp_calls _ _ _).mono ?_; rintro e w' ⟨rfl, rfl⟩)
 go_ret
 exact ⟨rfl, by repeat (first | (with_reducible exact Below.refl _ _) | (with_reducible apply below_alloc))⟩
def impl_Table_member.srchl0 : Nat → List S82 → Int → Nat → Nat → Option (Int × Bool)
  | 0, _, _, _, _ => none
  | k + 1, x, id, lo, hi => if lo < hi then (if impl_Table_member.cmpI (rd_T82 x (((lo : Int) + (hi : Int)) / 2)).f0 id < 0 then impl_Table_member.srchl0 k x id ((lo + hi) / 2 + 1) hi else impl_Table_member.srchl0 k x id lo ((lo + hi) / 2))
    else some ((lo : Int), decide (lo < x.length) && (impl_Table_member.cmpI (rd_T82 x (lo : Int)).f0 id == 0))
def impl_Table_member.srchf (k : Nat) (x : List S82) (id : Int) : Option (Int × Bool) := if x.length < 4611686018427387904 then impl_Table_member.srchl0 k x id 0 x.length else none
set_option maxHeartbeats 8000000 in
set_option maxRecDepth 100000 in
theorem impl_Table_member.srchcalls (k : Nat) (A0 : Option Addr) (c0 : Nat) (l0 : List S82) (id r1 : Int) (r2 : Bool) (w : World) (hr0 : Kd.C k82 w A0 l0.length l0) (hc0 : l0.length ≤ c0) (h : impl_Table_member.srchf k l0 id = some (r1, r2)) :
  Calls Try.prog 170 #[.slice A0 l0.length c0, .int .i64 id, .func (.func 171) #[] #[]] w fun e w' => e = .returned (.tuple #[.int .i64 r1, .bool r2]) ∧ Below w.heap.size w w' := by
 have hu82 := Try.underlying82
 have HR0 := Aside0.mk hr0; clear hr0 hc0
 unfold impl_Table_member.srchf at h
 by_cases hsz : l0.length < 4611686018427387904
 ·rw [if_pos hsz] at h
  have HB0 := Aside0.mk (Below.refl w.heap.size w)
  have H' := Aside0.mk h
  clear h; go_enter Try.func170, Try.ntmps170
  go_wp2
  go_loopg [9, 10] k (fun kx s9 s10 wr => ∃ lo hi : Nat, s9 = .int .i64 lo ∧ s10 = .int .i64 hi ∧ lo ≤ hi ∧ hi ≤ l0.length ∧ Aside0 (impl_Table_member.srchl0 kx l0 id lo hi = some (r1, r2)) ∧ Aside0 (Below w.heap.size w wr))
  case atStart => exact ⟨0, l0.length, rfl, rfl, Nat.zero_le _, Nat.le_refl _, H', HB0⟩
  case round =>
   clear H' HB0
   obtain ⟨lo, hi, rfl, rfl, hlh, hin, HA, HB⟩ := hrel
   cases gk with
   | zero => exact absurd HA.out (by simp [impl_Table_member.srchl0])
   | succ k1 =>
    have H := HA.out; clear HA
    simp only [impl_Table_member.srchl0] at H
    by_cases hlt : lo < hi
    ·rw [if_pos hlt] at H
     obtain ⟨ad, ead, hx0, hx1, hx2⟩ := at_T82 HR0.out (((lo : Int) + (hi : Int)) / 2) (by omega) (by omega)
     cases ead
     replace hx0 := pw_cell_below HB.out hx0
     replace hx1 := pw_cell_below HB.out hx1
     replace hx2 := pw_cell_below HB.out hx2
     have e_ : (((lo : Int) + (hi : Int)) / 2).toNat = (lo + hi) / 2 := by omega
     rw [e_] at hx0 hx1 hx2
     by_cases hc : impl_Table_member.cmpI (rd_T82 l0 (((lo : Int) + (hi : Int)) / 2)).f0 id < 0
     ·rw [if_pos hc] at H; have H2 := Aside0.mk H; clear H
      go_wp2_with (go_at_call 171; refine (impl_Table_member.key_calls _ _ _ _ _).mono ?_; rintro e w2 ⟨rfl, hb⟩)
      go_roundg k1
      case measure => omega
      case rel => exact ⟨(lo + hi) / 2 + 1, hi, by rw [show ((lo : Int) + (hi : Int)) / 2 + 1 = (((lo + hi) / 2 + 1 : Nat) : Int) by omega], rfl, by omega, hin, H2, ⟨below_step HB.out hb⟩⟩
     ·rw [if_neg hc] at H; have H2 := Aside0.mk H; clear H
      go_wp2_with (go_at_call 171; refine (impl_Table_member.key_calls _ _ _ _ _).mono ?_; rintro e w2 ⟨rfl, hb⟩)
      go_roundg k1
      case measure => omega
      case rel => exact ⟨lo, (lo + hi) / 2, rfl, by rw [show ((lo : Int) + (hi : Int)) / 2 = (((lo + hi) / 2 : Nat) : Int) by omega], by omega, by omega, H2, ⟨below_step HB.out hb⟩⟩
    ·rw [if_neg hlt] at H
     obtain rfl : hi = lo := by omega
     simp only [Option.some.injEq, Prod.mk.injEq] at H; obtain ⟨rfl, rfl⟩ := H
     by_cases hn : hi < l0.length
     ·obtain ⟨ad, ead, hx0, hx1, hx2⟩ := at_T82 HR0.out (hi : Int) (by omega) (by omega)
      cases ead
      replace hx0 := pw_cell_below HB.out hx0
      replace hx1 := pw_cell_below HB.out hx1
      replace hx2 := pw_cell_below HB.out hx2
      rw [Int.toNat_natCast] at hx0 hx1 hx2
      go_wp2_with (go_at_call 171; refine (impl_Table_member.key_calls _ _ _ _ _).mono ?_; rintro e w2 ⟨rfl, hb⟩)
      go_ret2
      exact ⟨by simp [hn], below_step HB.out hb⟩
     ·go_wp2
      go_ret2
      exact ⟨by simp [hn], HB.out⟩
 ·rw [if_neg hsz] at h
  exact absurd h (by simp)
theorem impl_Table_member.srchmono_l : ∀ (k : Nat) (x : List S82) (id : Int) (lo hi : Nat), LeO (impl_Table_member.srchl0 k x id lo hi) (impl_Table_member.srchl0 (k + 1) x id lo hi)
 | 0, _, _, _, _ => fun r h => by simp [impl_Table_member.srchl0] at h
 | k + 1, x, id, lo, hi => by
  have ih := impl_Table_member.srchmono_l k
  rw [impl_Table_member.srchl0, impl_Table_member.srchl0]
  repeat' first
   | (with_reducible exact ih _ _ _ _)
   | (with_reducible exact LeO.refl _)
   | (with_reducible refine LeO.ite ?_ ?_)
def impl_Table_member.f (k : Nat) (a0_0 : Int) (l0_1 : List S82) (a1 : Int) : Option (Int × Bool) := impl_Table_member.srchf k l0_1 a1
theorem impl_Table_member.mono : ∀ a0 a1 a2 k, LeO (impl_Table_member.f k a0 a1 a2) (impl_Table_member.f (k + 1) a0 a1 a2) := by
 intro a0 a1 a2 k
 unfold impl_Table_member.f impl_Table_member.srchf
 refine LeO.ite (impl_Table_member.srchmono_l _ _ _ _ _) (LeO.refl _)
set_option maxHeartbeats 8000000 in
set_option maxRecDepth 100000 in
theorem impl_Table_member.calls (k : Nat) (a0_0 : Int) (A0_1 : Option Addr) (c0_1 : Nat) (l0_1 : List S82) (a1 : Int) (r1 : Int) (r2 : Bool) (w : World) (hr0_1 : Kd.C k82 w A0_1 l0_1.length l0_1) (hc0_1 : l0_1.length ≤ c0_1) (h : impl_Table_member.f k a0_0 l0_1 a1 = some (r1, r2)) :
  Calls Try.prog 133 #[.agg #[.int .i64 a0_0, .slice A0_1 l0_1.length c0_1], .int .i64 a1] w fun e w' => e = .returned (.tuple #[.int .i64 r1, .bool r2]) ∧ Below w.heap.size w w' := by
 have hu41 := Try.underlying41
 go_enter Try.func133, Try.ntmps133
 go_wp2_with (go_at_call 170; refine (impl_Table_member.srchcalls k _ _ _ _ _ _ _ ?side1 hc0_1 h).mono ?_; (case side1 => repeat (first | exact hr0_1 | (with_reducible refine Kd.C_alloc ?_ _))); rintro e w' ⟨rfl, hb⟩)
 go_ret2
 exact ⟨rfl, below_step (by repeat (first | (with_reducible exact Below.refl _ _) | (with_reducible apply below_alloc))) hb⟩

end Go.Proofs.Ytigoajblljolcaa.XFnExactHelpers
