-- Written by this session's own program (xprint.py) over the kit's print.
import Derived.Test.YtigoajblljolcaaXFnExactMergex0
import Derived.Test.YtigoajblljolcaaXFnExactMergex3
import Derived.Test.YtigoajblljolcaaXFnExactMergex4
import Derived.Test.YtigoajblljolcaaXFnExactMergex5
namespace Go.Proofs.Ytigoajblljolcaa.XFnExactMerge
open Go.RowKit Go.Proofs.YtigoajblljolcaaW.PrintWords Go.Proofs.YtigoajblljolcaaW.PrintLast Go.Proofs.YtigoajblljolcaaW.PrintMore
attribute [local go_sem] max2_int min2_int max_two min_two max_three min_three max_four min_four   -- for this text's walks alone
set_option linter.unusedVariables false
set_option linter.unusedSimpArgs false

/-! ### spec_Merge: function 54 -/
mutual
def spec_Merge.j0 : Nat → Bool → Int → List (S82) → Int → List (S82) → Option (Int × (List (S82)) × Bool)
  | 0, _, _, _, _, _ => none
  | k + 1, x16, x208000, x208001, x209000, x209001 => if x16 = true then (some (0, ([] : List (S82)), false)) else ((spec_l10own.f x208000 x208001).bind fun bt212 => (spec_Merge.l0 k false 0 x209000 x209001 bt212.1 bt212.2))
def spec_Merge.l0 : Nat → Bool → Int → Int → List (S82) → Int → List (S82) → Option (Int × (List (S82)) × Bool)
  | 0, _, _, _, _, _, _ => none
  | k + 1, x7, x8, x209000, x209001, x217000, x217001 => if x8 < (x209001.length : Int) then (if 0 ≤ x8 then ((spec_l10say.f k x217000 x217001 ((rd_T82 x209001 x8).f0) ((rd_T82 x209001 x8).f1) ((rd_T82 x209001 x8).f2)).bind fun bt218 => (if bt218.1 = true then (spec_Merge.l0 k true (wrap64 (x8 + 1)) x209000 x209001 bt218.2.1 bt218.2.2) else (spec_Merge.l0 k x7 (wrap64 (x8 + 1)) x209000 x209001 bt218.2.1 bt218.2.2))) else (none)) else (some (x217000, x217001, x7))
end
def spec_Merge.f (k : Nat) (a0_0 : Int) (l0_1 : List (S82)) (a1_0 : Int) (l1_1 : List (S82)) : Option (Int × (List (S82)) × Bool) := (spec_TableOk.f k a0_0 l0_1).bind fun t210 => (if t210 = true then ((spec_TableOk.f k a1_0 l1_1).bind fun t211 => (spec_Merge.j0 k (!t211) a0_0 l0_1 a1_0 l1_1)) else (spec_Merge.j0 k true a0_0 l0_1 a1_0 l1_1))
theorem spec_Merge.mono_l : ∀ k, (∀ y0 y1 y2 y3 y4, LeO (spec_Merge.j0 k y0 y1 y2 y3 y4) (spec_Merge.j0 (k + 1) y0 y1 y2 y3 y4)) ∧ (∀ y0 y1 y2 y3 y4 y5, LeO (spec_Merge.l0 k y0 y1 y2 y3 y4 y5) (spec_Merge.l0 (k + 1) y0 y1 y2 y3 y4 y5))
 | 0 => ⟨fun _ _ _ _ _ r h => by simp [spec_Merge.j0] at h, fun _ _ _ _ _ _ r h => by simp [spec_Merge.l0] at h⟩
 | k + 1 => by
  obtain ⟨ih0, ih1⟩ := spec_Merge.mono_l k
  refine ⟨?_, ?_⟩
  ·intro y0 y1 y2 y3 y4
   unfold spec_Merge.j0
   repeat' first
   | (with_reducible exact ih0 _ _ _ _ _)
   | (with_reducible exact ih1 _ _ _ _ _ _)
   | (with_reducible exact spec_TableOk.mono _ _ _)
   | (with_reducible exact spec_l10say.mono _ _ _ _ _ _)
   | (with_reducible exact LeO.refl _)
   | (with_reducible exact LeO.none _)
   | (with_reducible refine LeO.ite ?_ ?_)
   | (with_reducible refine LeO.bind ?_ (fun _ => ?_))
   | exact ih0 _ _ _ _ _
   | exact ih1 _ _ _ _ _ _
   | exact spec_TableOk.mono _ _ _
   | exact spec_l10say.mono _ _ _ _ _ _
   | exact LeO.none _
   | refine LeO.ite ?_ ?_
   | refine LeO.bind ?_ (fun _ => ?_)
  ·intro y0 y1 y2 y3 y4 y5
   unfold spec_Merge.l0
   repeat' first
   | (with_reducible exact ih0 _ _ _ _ _)
   | (with_reducible exact ih1 _ _ _ _ _ _)
   | (with_reducible exact spec_TableOk.mono _ _ _)
   | (with_reducible exact spec_l10say.mono _ _ _ _ _ _)
   | (with_reducible exact LeO.refl _)
   | (with_reducible exact LeO.none _)
   | (with_reducible refine LeO.ite ?_ ?_)
   | (with_reducible refine LeO.bind ?_ (fun _ => ?_))
   | exact ih0 _ _ _ _ _
   | exact ih1 _ _ _ _ _ _
   | exact spec_TableOk.mono _ _ _
   | exact spec_l10say.mono _ _ _ _ _ _
   | exact LeO.none _
   | refine LeO.ite ?_ ?_
   | refine LeO.bind ?_ (fun _ => ?_)
theorem spec_Merge.mono : ∀ a0 a1 a2 a3 k, LeO (spec_Merge.f k a0 a1 a2 a3) (spec_Merge.f (k + 1) a0 a1 a2 a3) := by
 intro a0 a1 a2 a3 k
 obtain ⟨ih0, ih1⟩ := spec_Merge.mono_l k
 unfold spec_Merge.f
 repeat' first
   | (with_reducible exact ih0 _ _ _ _ _)
   | (with_reducible exact ih1 _ _ _ _ _ _)
   | (with_reducible exact spec_TableOk.mono _ _ _)
   | (with_reducible exact spec_l10say.mono _ _ _ _ _ _)
   | (with_reducible exact LeO.refl _)
   | (with_reducible exact LeO.none _)
   | (with_reducible refine LeO.ite ?_ ?_)
   | (with_reducible refine LeO.bind ?_ (fun _ => ?_))
   | exact ih0 _ _ _ _ _
   | exact ih1 _ _ _ _ _ _
   | exact spec_TableOk.mono _ _ _
   | exact spec_l10say.mono _ _ _ _ _ _
   | exact LeO.none _
   | refine LeO.ite ?_ ?_
   | refine LeO.bind ?_ (fun _ => ?_)
set_option maxHeartbeats 8000000 in
set_option maxRecDepth 100000 in
theorem spec_Merge.calls (k : Nat) (a0_0 : Int) (A0_1 : Option Addr) (c0_1 : Nat) (l0_1 : List (S82)) (a1_0 : Int) (A1_1 : Option Addr) (c1_1 : Nat) (l1_1 : List (S82)) (r1 : Int) (r2 : List (S82)) (r3 : Bool) (w : World) (hr0_1 : Kd.C k82 w A0_1 l0_1.length l0_1) (hc0_1 : l0_1.length ≤ c0_1) (hr1_1 : Kd.C k82 w A1_1 l1_1.length l1_1) (hc1_1 : l1_1.length ≤ c1_1) (h : spec_Merge.f k a0_0 l0_1 a1_0 l1_1 = some (r1, r2, r3)) :
  Calls Try.prog 54 #[.agg #[.int .i64 a0_0, .slice A0_1 l0_1.length c0_1], .agg #[.int .i64 a1_0, .slice A1_1 l1_1.length c1_1]] w fun e w' => ∃ v1_ : Value, e = .returned (.tuple #[.agg #[.int .i64 r1, v1_], .bool r3]) ∧ Kd.R k82 82 w' w.heap.size (fun _ => True) v1_ r2 ∧ Below w.heap.size w w' := by
 have hu41 := Try.underlying41
 have hu82 := Try.underlying82
 have HR0_1 := Aside0.mk hr0_1; have HC0_1 := Aside0.mk hc0_1; clear hr0_1 hc0_1; have HR1_1 := Aside0.mk hr1_1; have HC1_1 := Aside0.mk hc1_1; clear hr1_1 hc1_1
 have HB := Aside0.mk (Below.refl w.heap.size w)
 have H : ((spec_TableOk.f k a0_0 l0_1).bind fun t210 => (if t210 = true then ((spec_TableOk.f k a1_0 l1_1).bind fun t211 => (spec_Merge.j0 k (!t211) a0_0 l0_1 a1_0 l1_1)) else (spec_Merge.j0 k true a0_0 l0_1 a1_0 l1_1))) = some (r1, r2, r3) := h
 clear h; have HC3 := Aside0.mk H; clear H; go_enter Try.func54, Try.ntmps54
 go_upto_region 1 with (first | ((with_reducible refine gate_dst (N := 2) rfl ?_); refine box_event ?hg (N := 2) ?hd (cs := #[.int .i64 a0_0, .slice A0_1 l0_1.length c0_1]) (t := 41) ?hr ?_; (case hd => rfl); (case hg => rfl); (case hr => first | (go_simp; done) | (go_simp; rfl)); intro gb207 hg w4 hbox hb; have n_ := an (below_step (by exact bel0) hb) (an (hbox) (an ((by rw [hg]; exact (below_size (by exact bel0)) : w.heap.size ≤ gb207)) (an ((by rw [hg]; exact (below_size (by exact bel0)) : w.heap.size ≤ gb207)) (trivial)))); clear HB; obtain ⟨HB, BK207, GW207, GE207, -⟩ := n_; clear hb hbox hg) | ((with_reducible refine gate_dst (N := 3) rfl ?_); refine box_event ?hg (N := 3) ?hd (cs := #[.int .i64 a1_0, .slice A1_1 l1_1.length c1_1]) (t := 41) ?hr ?_; (case hd => rfl); (case hg => rfl); (case hr => first | (go_simp; done) | (go_simp; rfl)); intro gb208 hg w5 hbox hb; have n_ := an (blk_below (blk_nw BK207.out) hb) (an (below_step (by exact bel0) hb) (an (hbox) (an ((by rw [hg]; exact (below_size (by exact bel0)) : w.heap.size ≤ gb208)) (an ((by rw [hg]; exact (below_size (by exact bel0)) : w.heap.size ≤ gb208)) (an ((by rw [hg]; exact Nat.ne_of_lt (blk_lt (blk_nw BK207.out)) : gb207 ≠ gb208)) (an ((by rw [hg]; exact Nat.ne_of_gt (blk_lt (blk_nw BK207.out)) : gb208 ≠ gb207)) (trivial))))))); clear BK207 HB; obtain ⟨BK207, HB, BK208, GW208, GE208, NB207_208, NB208_207, -⟩ := n_; clear hb hbox hg) | ((with_reducible refine gate_dst (N := 4) rfl ?_); refine box_event ?hg (N := 4) ?hd (cs := #[.int .i64 0, .slice none 0 0]) (t := 41) ?hr ?_; (case hd => rfl); (case hg => rfl); (case hr => first | (go_simp; done) | (go_simp; rfl)); intro gb209 hg w6 hbox hb; have n_ := an (blk_below (blk_nw BK207.out) hb) (an (blk_below (blk_nw BK208.out) hb) (an (below_step (by exact bel0) hb) (an (hbox) (an ((by rw [hg]; exact (below_size (by exact bel0)) : w.heap.size ≤ gb209)) (an ((by rw [hg]; exact (below_size (by exact bel0)) : w.heap.size ≤ gb209)) (an ((by rw [hg]; exact Nat.ne_of_lt (blk_lt (blk_nw BK207.out)) : gb207 ≠ gb209)) (an ((by rw [hg]; exact Nat.ne_of_gt (blk_lt (blk_nw BK207.out)) : gb209 ≠ gb207)) (an ((by rw [hg]; exact Nat.ne_of_lt (blk_lt (blk_nw BK208.out)) : gb208 ≠ gb209)) (an ((by rw [hg]; exact Nat.ne_of_gt (blk_lt (blk_nw BK208.out)) : gb209 ≠ gb208)) (trivial)))))))))); clear BK207 BK208 HB; obtain ⟨BK207, BK208, HB, BK209, GW209, GE209, NB207_209, NB209_207, NB208_209, NB209_208, -⟩ := n_; clear hb hbox hg))
 (try simp only [Act.put, List.setIfInBounds_toArray, List.set_cons_zero, List.set_cons_succ])
 go_cut [16] (fun v16 wc => ∃ (kq : Nat) (x16_2 : Bool), v16 = .bool x16_2 ∧ Aside0 (spec_Merge.j0 kq x16_2 a0_0 l0_1 a1_0 l1_1 = some (r1, r2, r3)) ∧ Aside0 (kq ≤ k) ∧ Aside0 (wc.heap[gb207]? = some (.cells #[.int .i64 a0_0, (.slice A0_1 l0_1.length c0_1)] 41 (0, 0))) ∧ Aside0 (wc.heap[gb208]? = some (.cells #[.int .i64 a1_0, (.slice A1_1 l1_1.length c1_1)] 41 (0, 0))) ∧ Aside0 (wc.heap[gb209]? = some (.cells #[.int .i64 0, (.slice none 0 0)] 41 (0, 0))) ∧ Aside0 (Below w.heap.size w wc))
 case first =>
  have H := HC3.out; clear HC3; replace H := Option.bind_eq_some_iff.mp H; obtain ⟨t210, A70, H⟩ := H; have A7 := Aside0.mk A70; clear A70; have hnb8 := NB207_208.out; have hnc8 := NB208_207.out; have hnb9 := NB207_209.out; have hnc9 := NB209_207.out; obtain ⟨hcz10_0, hcz10_1⟩ := blkz2 BK207.out; have hfz10_0 := blkf BK207.out
  replace H := Aside0.mk H
  go_wp2_with (first | ((with_reducible refine gate_callee (f := 77) rfl ?_); refine goesL_ (some 10) rfl rfl Try.func77 (by kernel_rfl) rfl #[.agg #[.int .i64 a0_0, .slice A0_1 l0_1.length c0_1]] rfl (by (try simp only [List.map_toArray, List.map_cons, List.map_nil]); first | done | rfl | (simp only [List.length_drop, List.length_take]; rfl)) ?_; (with_reducible refine (spec_TableOk.calls k a0_0 _ _ l0_1 t210 _ ?side1 ?side2 A7.out).mono ?_); (case side1 => repeat (first | exact (Kd.C_below HR0_1.out HB.out) | (with_reducible refine Kd.C_alloc ?_ _) | (with_reducible refine Kd.C_drewN ?_ _) | (with_reducible refine Kd.C_drew ?_))); (case side2 => exact HC0_1.out); rintro e w11 ⟨rfl, hb⟩; refine ⟨_, rfl, ?_⟩; have n_ := an (blk_below (blk_nw BK207.out) hb) (an (blk_below (blk_nw BK208.out) hb) (an (blk_below (blk_nw BK209.out) hb) (an (below_step (by exact bel0) hb) (trivial)))); clear BK207 BK208 BK209 HB; obtain ⟨BK207, BK208, BK209, HB, -⟩ := n_; (try clear hb); (try clear hb2); (try clear hk); (try clear hi); refine Stop.out ?_))
  refine Stop.mk ?_
  replace H := H.out
  by_cases c12 : t210 = true
  ·subst c12; rw [if_pos rfl] at H; replace H := Option.bind_eq_some_iff.mp H; obtain ⟨t211, A130, H⟩ := H; have A13 := Aside0.mk A130; clear A130
   have H' := Aside0.mk H
   clear H; have hnb14 := NB208_207.out; have hnc14 := NB207_208.out; have hnb15 := NB208_209.out; have hnc15 := NB209_208.out; obtain ⟨hcz16_0, hcz16_1⟩ := blkz2 BK208.out; have hfz16_0 := blkf BK208.out
   go_wp2_with (first | (go_at_call 77; (with_reducible refine (spec_TableOk.calls k a1_0 _ _ l1_1 t211 _ ?side1 ?side2 A13.out).mono ?_); (case side1 => repeat (first | exact (Kd.C_below HR1_1.out HB.out) | (with_reducible refine Kd.C_alloc ?_ _) | (with_reducible refine Kd.C_drewN ?_ _) | (with_reducible refine Kd.C_drew ?_))); (case side2 => exact HC1_1.out); rintro e w17 ⟨rfl, hb⟩; have n_ := an (blk_below (blk_nw BK207.out) hb) (an (blk_below (blk_nw BK208.out) hb) (an (blk_below (blk_nw BK209.out) hb) (an (below_step (by exact bel0) hb) (trivial)))); clear BK207 BK208 BK209 HB; obtain ⟨BK207, BK208, BK209, HB, -⟩ := n_; (try clear hb); (try clear hb2); (try clear hk); (try clear hi)))
   go_meet
   case rel => exact ⟨_, (!t211), (by first | rfl | (simp; done) | (simp [*]; done)), H', ⟨by first | omega | exact Nat.le_refl _⟩, ⟨by exact blk_nw BK207.out⟩, ⟨by exact blk_nw BK208.out⟩, ⟨by exact blk_nw BK209.out⟩, ⟨by exact bel0⟩⟩
  ·replace c12 := Bool.eq_false_iff.mpr c12
   subst c12
   rw [if_neg (show ¬ (false = true) by decide)] at H
   have H' := Aside0.mk H
   clear H
   go_wp2
   go_meet
   case rel => exact ⟨_, (true), (by first | rfl | (simp; done) | (simp [*]; done)), H', ⟨by first | omega | exact Nat.le_refl _⟩, ⟨by exact blk_nw BK207.out⟩, ⟨by exact blk_nw BK208.out⟩, ⟨by exact blk_nw BK209.out⟩, ⟨by exact bel0⟩⟩
 case rest =>
  clear HC3; try clear c1; try clear p2; try clear c5; try clear c7; try clear c8; try clear c9; try clear c12; try clear c14; try clear c15; try clear hcz10_0; try clear hcz10_1; try clear hcz16_0; try clear hcz16_1; try clear hfz10_0; try clear hfz10_1; try clear hfz16_0; try clear hfz16_1
  obtain ⟨kq, x16_2, rfl, HA, HJ2, BK207, BK208, BK209, HB⟩ := hcut
  cases kq with
  | zero => exact absurd HA.out (by simp [spec_Merge.j0])
  | succ kj2 =>
   have H := HA.out; clear HA
   simp only [spec_Merge.j0] at H
   by_cases c18 : x16_2 = true
   ·subst c18; rw [if_pos rfl] at H; simp only [Option.some.injEq, Prod.mk.injEq] at H; obtain ⟨rfl, rfl, rfl⟩ := H; have hnb19 := NB209_207.out; have hnc19 := NB207_209.out; have hnb20 := NB209_208.out; have hnc20 := NB208_209.out; obtain ⟨hcz21_0, hcz21_1⟩ := blkz2 BK209.out; have hfz21_0 := blkf BK209.out
    go_wp2_with (first | ((with_reducible refine gate_store (t := 41) (p := 4) rfl ?_); refine store_event (t := 41) (p := 4) (v := ?vo_w22) (w1 := ((wc.setCell ⟨gb209, 0, none⟩ (.int .i64 0)).setCell ⟨gb209, 1, none⟩ (.slice none 0 0))) ?hg ?ho ?hn ?hr ?_; (case ho => rfl); (case hg => rfl); (case hn => rfl); (case hr => first | (go_simp; done) | (go_simp; rfl)); intro w22 hw; have n0_ : Aside0 (w22.heap[gb207]? = some (.cells #[.int .i64 a0_0, .slice A0_1 l0_1.length c0_1] 41 (0, 0))) := ⟨(by rw [hw]; exact (by exact blk_kb BK207.out NB207_209.out))⟩; have n1_ : Aside0 (w22.heap[gb208]? = some (.cells #[.int .i64 a1_0, .slice A1_1 l1_1.length c1_1] 41 (0, 0))) := ⟨(by rw [hw]; exact (by exact blk_kb BK208.out NB208_209.out))⟩; have n2_ : Aside0 (w22.heap[gb209]? = some (.cells #[.int .i64 0, .slice none 0 0] 41 (0, 0))) := ⟨(by rw [hw]; exact (by (with_reducible repeat (first | refine blk_drewN ?_ _ | refine blk_drew ?_ | refine blk_alloc ?_ _)); exact blk_fill2 BK209.out))⟩; have n3_ : Aside0 (Below w.heap.size w w22) := ⟨(by rw [hw]; exact (by exact bel0))⟩; clear hw; clear BK207; clear BK208; clear BK209; clear HB; have BK207 := n0_; have BK208 := n1_; have BK209 := n2_; have HB := n3_; clear n0_ n1_ n2_ n3_))
    refine bodyPost_ret (results_ct rfl _ _ gb209 41 #[.int .i64 0, .slice none 0 0] (0, 0) _ rfl (by exact blk_nw BK209.out) Try.underlying41 rfl (by kernel_rfl)) rfl ?_
    exact ⟨_, by first | rfl | (simp [errW_none, errW_some] <;> rfl) | (simp [*, errW_none, errW_some] <;> rfl), by first | exact Kd.R_nil _ _ _ _ _ | exact Kd.N_nil _ _ _ _ _ | exact Kd.V_nil _ _ _ _ _ | exact Kd.Q_nil _ _ _ _ _ | exact Kd.S_nil _ _ _ _ _, by exact bel0⟩
   ·replace c18 := Bool.eq_false_iff.mpr c18
    subst c18
    rw [if_neg (show ¬ (false = true) by decide)] at H
    replace H := Option.bind_eq_some_iff.mp H
    obtain ⟨⟨t212, t213⟩, A230, H⟩ := H
    replace H : (spec_Merge.l0 kj2 false 0 a1_0 l1_1 t212 t213) = some (r1, r2, r3) := H
    have A23 := Aside0.mk A230; clear A230
    have H' := Aside0.mk H
    clear H; have hnb24 := NB207_208.out; have hnc24 := NB208_207.out; have hnb25 := NB207_209.out; have hnc25 := NB209_207.out; obtain ⟨hcz26_0, hcz26_1⟩ := blkz2 BK207.out; have hfz26_0 := blkf BK207.out
    go_wp2_with (first | ((with_reducible refine gate_callee (f := 78) rfl ?_); refine goesL_ (some 19) rfl rfl Try.func78 (by kernel_rfl) rfl #[.agg #[.int .i64 a0_0, .slice A0_1 l0_1.length c0_1]] rfl (by (try simp only [List.map_toArray, List.map_cons, List.map_nil]); first | done | rfl | (simp only [List.length_drop, List.length_take]; rfl)) ?_; (with_reducible refine (spec_l10own.calls a0_0 _ _ l0_1 t212 t213 _ ?side1 ?side2 A23.out).mono ?_); (case side1 => repeat (first | exact (Kd.C_below HR0_1.out HB.out) | (with_reducible refine Kd.C_alloc ?_ _) | (with_reducible refine Kd.C_drewN ?_ _) | (with_reducible refine Kd.C_drew ?_))); (case side2 => exact HC0_1.out); rintro e w27 ⟨v214, rfl, ho0, hb⟩; refine ⟨_, rfl, ?_⟩; have n_ := an (Kd.R_lower ho0 (below_size (by exact bel0))) (an (blk_below (blk_nw BK207.out) hb) (an (blk_below (blk_nw BK208.out) hb) (an (blk_below (blk_nw BK209.out) hb) (an (below_step (by exact bel0) hb) (trivial))))); clear BK207 BK208 BK209 HB; obtain ⟨HO215, BK207, BK208, BK209, HB, -⟩ := n_; (try clear hb); (try clear hb2); (try clear hk); (try clear hi); (try clear ho0)) | ((with_reducible refine gate_dst (N := 6) rfl ?_); refine box_event ?hg (N := 6) ?hd (cs := #[.int .i64 0, .slice none 0 0]) (t := 41) ?hr ?_; (case hd => rfl); (case hg => rfl); (case hr => first | (go_simp; done) | (go_simp; rfl)); intro gb216 hg w28 hbox hb; have n_ := an (Kd.R_below (by exact Kd.R_nw HO215.out) hb) (an (blk_below (blk_nw BK207.out) hb) (an (blk_below (blk_nw BK208.out) hb) (an (blk_below (blk_nw BK209.out) hb) (an (below_step (by exact bel0) hb) (an (hbox) (an ((by rw [hg]; exact (below_size (by exact bel0)) : w.heap.size ≤ gb216)) (an ((by rw [hg]; exact (below_size (by exact bel0)) : w.heap.size ≤ gb216)) (an ((by rw [hg]; exact Nat.ne_of_lt (blk_lt (blk_nw BK207.out)) : gb207 ≠ gb216)) (an ((by rw [hg]; exact Nat.ne_of_gt (blk_lt (blk_nw BK207.out)) : gb216 ≠ gb207)) (an ((by rw [hg]; exact Nat.ne_of_lt (blk_lt (blk_nw BK208.out)) : gb208 ≠ gb216)) (an ((by rw [hg]; exact Nat.ne_of_gt (blk_lt (blk_nw BK208.out)) : gb216 ≠ gb208)) (an ((by rw [hg]; exact Nat.ne_of_lt (blk_lt (blk_nw BK209.out)) : gb209 ≠ gb216)) (an ((by rw [hg]; exact Nat.ne_of_gt (blk_lt (blk_nw BK209.out)) : gb216 ≠ gb209)) (trivial)))))))))))))); clear HO215 BK207 BK208 BK209 HB; obtain ⟨HO215, BK207, BK208, BK209, HB, BK216, GW216, GE216, NB207_216, NB216_207, NB208_216, NB216_208, NB209_216, NB216_209, -⟩ := n_; clear hb hbox hg; have hnb29 := NB216_207.out; have hnc29 := NB207_216.out; have hnb30 := NB216_208.out; have hnc30 := NB208_216.out; have hnb31 := NB216_209.out; have hnc31 := NB209_216.out; obtain ⟨hcz32_0, hcz32_1⟩ := blkz2 BK216.out; have hfz32_0 := blkf BK216.out; obtain ⟨Ao33, co33, eo33⟩ := Kd.R_slice HO215.out; subst eo33) | ((with_reducible refine gate_store (t := 41) (p := 6) rfl ?_); refine store_event (t := 41) (p := 6) (v := ?vo_w34) (w1 := ((w28.setCell ⟨gb216, 0, none⟩ (.int .i64 t212)).setCell ⟨gb216, 1, none⟩ (.slice Ao33 t213.length co33))) ?hg ?ho ?hn ?hr ?_; (case ho => rfl); (case hg => rfl); (case hn => rfl); (case hr => first | (go_simp; done) | (go_simp; rfl)); intro w34 hw; have n0_ : Aside0 (Kd.R k82 82 w34 w.heap.size (fun _ => True) (.slice Ao33 t213.length co33) t213) := ⟨(by rw [hw]; exact (by exact (Kd.R_farN HO215.out BK216.out)))⟩; have n1_ : Aside0 (w34.heap[gb207]? = some (.cells #[.int .i64 a0_0, .slice A0_1 l0_1.length c0_1] 41 (0, 0))) := ⟨(by rw [hw]; exact (by exact blk_kb BK207.out NB207_216.out))⟩; have n2_ : Aside0 (w34.heap[gb208]? = some (.cells #[.int .i64 a1_0, .slice A1_1 l1_1.length c1_1] 41 (0, 0))) := ⟨(by rw [hw]; exact (by exact blk_kb BK208.out NB208_216.out))⟩; have n3_ : Aside0 (w34.heap[gb209]? = some (.cells #[.int .i64 0, .slice none 0 0] 41 (0, 0))) := ⟨(by rw [hw]; exact (by exact blk_kb BK209.out NB209_216.out))⟩; have n4_ : Aside0 (w34.heap[gb216]? = some (.cells #[.int .i64 t212, .slice Ao33 t213.length co33] 41 (0, 0))) := ⟨(by rw [hw]; exact (by (with_reducible repeat (first | refine blk_drewN ?_ _ | refine blk_drew ?_ | refine blk_alloc ?_ _)); exact blk_fill2 BK216.out))⟩; have n5_ : Aside0 (Below w.heap.size w w34) := ⟨(by rw [hw]; exact (by exact bel0))⟩; clear hw; clear HO215; clear BK207; clear BK208; clear BK209; clear BK216; clear HB; have HO215 := n0_; have BK207 := n1_; have BK208 := n2_; have BK209 := n3_; have BK216 := n4_; have HB := n5_; clear n0_ n1_ n2_ n3_ n4_ n5_))
    go_loopg [7, 8] kj2 (fun kq v7 v8 w' => ∃ (x7_2 : Bool) (x8_2 : Int) (x217000_2 : Int) (x217001_2 : List (S82)) (u217001 : Value), v7 = .bool x7_2 ∧ v8 = .int .i64 x8_2 ∧ Aside0 (spec_Merge.l0 kq x7_2 x8_2 a1_0 l1_1 x217000_2 x217001_2 = some (r1, r2, r3)) ∧ Aside0 (kq ≤ kj2) ∧ Aside0 (Kd.R k82 82 w' w.heap.size (fun _ => True) u217001 x217001_2) ∧ Aside0 (w'.heap[gb207]? = some (.cells #[.int .i64 a0_0, (.slice A0_1 l0_1.length c0_1)] 41 (0, 0))) ∧ Aside0 (w'.heap[gb208]? = some (.cells #[.int .i64 a1_0, (.slice A1_1 l1_1.length c1_1)] 41 (0, 0))) ∧ Aside0 (w'.heap[gb209]? = some (.cells #[.int .i64 0, (.slice none 0 0)] 41 (0, 0))) ∧ Aside0 (w'.heap[gb216]? = some (.cells #[.int .i64 x217000_2, u217001] 41 (0, 0))) ∧ Aside0 (Below w.heap.size w w'))
    case atStart => exact ⟨(false), (0), (t212), (t213), (.slice Ao33 t213.length co33), (by first | rfl | (simp; done) | (simp [*]; done)), (by first | rfl | (simp; done) | (simp [*]; done)), H', ⟨Nat.le_refl _⟩, ⟨by exact Kd.R_nw HO215.out⟩, ⟨by exact blk_nw BK207.out⟩, ⟨by exact blk_nw BK208.out⟩, ⟨by exact blk_nw BK209.out⟩, ⟨by exact blk_nw BK216.out⟩, ⟨by exact bel0⟩⟩
    case round =>
     clear H'
     try clear c1; try clear c2; try clear p2; try clear c3; try clear c5; try clear c7; try clear c8; try clear c9; try clear c12; try clear c14; try clear c15; try clear c18; try clear c19; try clear c20; try clear c24; try clear c25; try clear c29; try clear c30; try clear c31; try clear hcz10_0; try clear hcz10_1; try clear hcz16_0; try clear hcz16_1; try clear hcz21_0; try clear hcz21_1; try clear hcz26_0; try clear hcz26_1; try clear hcz32_0; try clear hcz32_1; try clear hfz10_0; try clear hfz10_1; try clear hfz16_0; try clear hfz16_1; try clear hfz21_0; try clear hfz21_1; try clear hfz26_0; try clear hfz26_1; try clear hfz32_0; try clear hfz32_1; try clear p2
     obtain ⟨x7_2, x8_2, x217000_2, x217001_2, u217001, rfl, rfl, HA, HK2, HO_217001, BK207, BK208, BK209, BK216, HB⟩ := hrel
     cases gk with
     | zero => exact absurd HA.out (by simp [spec_Merge.l0])
     | succ k2 =>
      have H := HA.out; clear HA
      simp only [spec_Merge.l0] at H
      by_cases c35 : x8_2 < (l1_1.length : Int)
      ·rw [if_pos c35] at H
       have c35b0 : decide (x8_2 < (l1_1.length : Int)) = true := decide_eq_true c35
       clear c35; (try simp only [c35b0])
       by_cases c36 : 0 ≤ x8_2
       ·rw [if_pos c36] at H; have c36b0 : decide (0 ≤ x8_2) = true := decide_eq_true c36; clear c36; (try simp only [c36b0]); replace H := Option.bind_eq_some_iff.mp H
        obtain ⟨⟨t218, t219, t220⟩, A370, H⟩ := H
        replace H : (if t218 = true then (spec_Merge.l0 k2 true (wrap64 (x8_2 + 1)) a1_0 l1_1 t219 t220) else (spec_Merge.l0 k2 x7_2 (wrap64 (x8_2 + 1)) a1_0 l1_1 t219 t220)) = some (r1, r2, r3) := H
        have A37 := Aside0.mk A370; clear A370; have hnb38 := NB208_207.out; have hnc38 := NB207_208.out; have hnb39 := NB208_209.out; have hnc39 := NB209_208.out; have hnb40 := NB208_216.out; have hnc40 := NB216_208.out; obtain ⟨hcz41_0, hcz41_1⟩ := blkz2 BK208.out; have hfz41_0 := blkf BK208.out
        have p217 : 0 ≤ (x8_2 : Int) := of_decide_eq_true (by first | (with_reducible assumption) | assumption)
        have q217 : x8_2 < (l1_1.length : Int) := of_decide_eq_true (by first | (with_reducible assumption) | assumption)
        obtain ⟨ad217, e217, hx217_0, hx217_1, hx217_2⟩ := at_T82 HR1_1.out x8_2 p217 q217
        cases e217
        replace hx217_0 := (HB.out.cell (World.block_lt_of_cell? w _ hx217_0)).trans hx217_0
        replace hx217_1 := (HB.out.cell (World.block_lt_of_cell? w _ hx217_1)).trans hx217_1
        replace hx217_2 := (HB.out.cell (World.block_lt_of_cell? w _ hx217_2)).trans hx217_2
        replace p217 := eq_true p217
        replace q217 := eq_true q217
        obtain ⟨Ao42, co42, eo42⟩ := Kd.R_slice HO_217001.out
        subst eo42
        replace H := Aside0.mk H
        go_wp2_with (first | ((with_reducible refine gate_callee (f := 113) rfl ?_); refine goesL_ (some 32) rfl rfl Try.func113 (by kernel_rfl) rfl #[.pointer (some ⟨gb216, 0, none⟩), .agg #[.int .i64 ((rd_T82 l1_1 x8_2).f0), .int .i64 ((rd_T82 l1_1 x8_2).f1), .int .i64 ((rd_T82 l1_1 x8_2).f2)]] rfl (by (try simp only [List.map_toArray, List.map_cons, List.map_nil]); first | done | rfl | (simp only [List.length_drop, List.length_take]; rfl)) ?_; (with_reducible refine (spec_l10say.calls k2 gb216 x217000_2 (fun k_ => some k_ = (.slice Ao42 x217001_2.length co42 : Value).ownBlock) (.slice Ao42 x217001_2.length co42) x217001_2 ((rd_T82 l1_1 x8_2).f0) ((rd_T82 l1_1 x8_2).f1) ((rd_T82 l1_1 x8_2).f2) t218 t219 t220 w _ ?side1 ?side2 ?side3 ?side4 A37.out).mono ?_); (case side1 => exact bel0); (case side2 => exact blk_nw BK216.out); (case side3 => exact GE216.out); (case side4 => exact Kd.R_tight rfl HO_217001.out); rintro e w43 ⟨rfl, v221, ho0, hi, hb, hkp⟩; refine ⟨_, rfl, ?_⟩; have n_ := an (blk_kept (by exact blk_nw BK207.out) hkp (fun hs_ => Or.elim hs_ (fun hs_ => (fun e_ => (Kd.R_ne HO_217001.out BK207.out (by decide)) e_) hs_) (fun e_ => NB207_216.out e_))) (an (blk_kept (by exact blk_nw BK208.out) hkp (fun hs_ => Or.elim hs_ (fun hs_ => (fun e_ => (Kd.R_ne HO_217001.out BK208.out (by decide)) e_) hs_) (fun e_ => NB208_216.out e_))) (an (blk_kept (by exact blk_nw BK209.out) hkp (fun hs_ => Or.elim hs_ (fun hs_ => (fun e_ => (Kd.R_ne HO_217001.out BK209.out (by decide)) e_) hs_) (fun e_ => NB209_216.out e_))) (an (hi) (an (Kd.R_mono (ok' := fun k_ => True) ho0 (fun k_ hk_ => trivial)) (an (hb) (trivial)))))); clear BK207 BK208 BK209 BK216 HB HO_217001; obtain ⟨BK207, BK208, BK209, BK216, HO222, HB, -⟩ := n_; (try clear hb); (try clear hkp); (try clear ho0); refine Stop.out ?_))
        refine Stop.mk ?_
        replace H := H.out
        by_cases c44 : t218 = true
        ·subst c44; rw [if_pos rfl] at H
         have H' := Aside0.mk H
         clear H
         go_wp2
         go_roundg k2
         case measure => have := HJ2.out; have := HK2.out; omega
         case rel => exact ⟨(true), (wrap64 (x8_2 + 1)), (t219), (t220), (v221), (by first | rfl | (simp; done) | (simp [*]; done)), (by first | rfl | (simp; done) | (simp [*]; done)), H', ⟨by have := HJ2.out; have := HK2.out; omega⟩, ⟨by exact Kd.R_nw HO222.out⟩, ⟨by exact blk_nw BK207.out⟩, ⟨by exact blk_nw BK208.out⟩, ⟨by exact blk_nw BK209.out⟩, ⟨by exact blk_nw BK216.out⟩, ⟨by exact bel0⟩⟩
        ·replace c44 := Bool.eq_false_iff.mpr c44
         subst c44
         rw [if_neg (show ¬ (false = true) by decide)] at H
         have H' := Aside0.mk H
         clear H
         go_wp2
         go_roundg k2
         case measure => have := HJ2.out; have := HK2.out; omega
         case rel => exact ⟨(x7_2), (wrap64 (x8_2 + 1)), (t219), (t220), (v221), (by first | rfl | (simp; done) | (simp [*]; done)), (by first | rfl | (simp; done) | (simp [*]; done)), H', ⟨by have := HJ2.out; have := HK2.out; omega⟩, ⟨by exact Kd.R_nw HO222.out⟩, ⟨by exact blk_nw BK207.out⟩, ⟨by exact blk_nw BK208.out⟩, ⟨by exact blk_nw BK209.out⟩, ⟨by exact blk_nw BK216.out⟩, ⟨by exact bel0⟩⟩
       ·rw [if_neg c36] at H
        exact absurd H (by simp)
      ·rw [if_neg c35] at H
       have c35b0 : decide (x8_2 < (l1_1.length : Int)) = false := decide_eq_false c35
       clear c35; (try simp only [c35b0]); simp only [Option.some.injEq, Prod.mk.injEq] at H; obtain ⟨rfl, rfl, rfl⟩ := H; have hnb45 := NB208_207.out; have hnc45 := NB207_208.out; have hnb46 := NB208_209.out; have hnc46 := NB209_208.out; have hnb47 := NB208_216.out; have hnc47 := NB216_208.out; obtain ⟨hcz48_0, hcz48_1⟩ := blkz2 BK208.out; have hfz48_0 := blkf BK208.out; have hnb49 := NB216_207.out; have hnc49 := NB207_216.out; have hnb50 := NB216_209.out; have hnc50 := NB209_216.out; obtain ⟨hcz51_0, hcz51_1⟩ := blkz2 BK216.out; have hfz51_0 := blkf BK216.out; have hnb52 := NB209_207.out; have hnc52 := NB207_209.out; obtain ⟨hcz53_0, hcz53_1⟩ := blkz2 BK209.out; have hfz53_0 := blkf BK209.out
       obtain ⟨Ao54, co54, eo54⟩ := Kd.R_slice HO_217001.out
       subst eo54
       go_wp2_with (first | ((with_reducible refine gate_store (t := 41) (p := 4) rfl ?_); refine store_event (t := 41) (p := 4) (v := ?vo_w55) (w1 := ((wr.setCell ⟨gb209, 0, none⟩ (.int .i64 x217000_2)).setCell ⟨gb209, 1, none⟩ (.slice Ao54 x217001_2.length co54))) ?hg ?ho ?hn ?hr ?_; (case ho => rfl); (case hg => rfl); (case hn => rfl); (case hr => first | (go_simp; done) | (go_simp; rfl)); intro w55 hw; have n0_ : Aside0 (Kd.R k82 82 w55 w.heap.size (fun _ => True) (.slice Ao54 x217001_2.length co54) x217001_2) := ⟨(by rw [hw]; exact (by exact (Kd.R_farN HO_217001.out BK209.out)))⟩; have n1_ : Aside0 (w55.heap[gb207]? = some (.cells #[.int .i64 a0_0, .slice A0_1 l0_1.length c0_1] 41 (0, 0))) := ⟨(by rw [hw]; exact (by exact blk_kb BK207.out NB207_209.out))⟩; have n2_ : Aside0 (w55.heap[gb208]? = some (.cells #[.int .i64 a1_0, .slice A1_1 l1_1.length c1_1] 41 (0, 0))) := ⟨(by rw [hw]; exact (by exact blk_kb BK208.out NB208_209.out))⟩; have n3_ : Aside0 (w55.heap[gb209]? = some (.cells #[.int .i64 x217000_2, .slice Ao54 x217001_2.length co54] 41 (0, 0))) := ⟨(by rw [hw]; exact (by (with_reducible repeat (first | refine blk_drewN ?_ _ | refine blk_drew ?_ | refine blk_alloc ?_ _)); exact blk_fill2 BK209.out))⟩; have n4_ : Aside0 (w55.heap[gb216]? = some (.cells #[.int .i64 x217000_2, .slice Ao54 x217001_2.length co54] 41 (0, 0))) := ⟨(by rw [hw]; exact (by exact blk_kb BK216.out NB216_209.out))⟩; have n5_ : Aside0 (Below w.heap.size w w55) := ⟨(by rw [hw]; exact (by exact bel0))⟩; clear hw; clear HO_217001; clear BK207; clear BK208; clear BK209; clear BK216; clear HB; have HO_217001 := n0_; have BK207 := n1_; have BK208 := n2_; have BK209 := n3_; have BK216 := n4_; have HB := n5_; clear n0_ n1_ n2_ n3_ n4_ n5_))
       refine bodyPost_ret (results_ct rfl _ _ gb209 41 #[.int .i64 x217000_2, .slice Ao54 x217001_2.length co54] (0, 0) _ rfl (by exact blk_nw BK209.out) Try.underlying41 rfl (by kernel_rfl)) rfl ?_
       exact ⟨_, by first | rfl | (simp [errW_none, errW_some] <;> rfl) | (simp [*, errW_none, errW_some] <;> rfl), by exact Kd.R_nw HO_217001.out, by exact bel0⟩

/-! ### impl_within: function 72 -/
def impl_within.f (a0 : Int) (a1 : Int) (a2 : Int) : Option (Bool) := if a1 ≤ a0 then (some (decide (a0 ≤ a2))) else (some false)
set_option maxHeartbeats 8000000 in
set_option maxRecDepth 100000 in
theorem impl_within.calls (a0 : Int) (a1 : Int) (a2 : Int) (r : Bool) (w : World) (h : impl_within.f a0 a1 a2 = some r) :
  Calls Try.prog 72 #[.int .i64 a0, .int .i64 a1, .int .i64 a2] w fun e w' => e = .returned (.bool r) ∧ Drawn0 w w' := by
 have H : (if a1 ≤ a0 then (some (decide (a0 ≤ a2))) else (some false)) = some r := h
 clear h
 by_cases c4 : a1 ≤ a0
 ·rw [if_pos c4] at H; have c4b0 : decide (a1 ≤ a0) = true := decide_eq_true c4; clear c4; (try simp only [c4b0])
  obtain rfl := Option.some.inj H
  go_enter Try.func72, Try.ntmps72
  go_wp2
  go_ret
  exact ⟨by first | rfl | (simp; done) | (simp [*]; done), by repeat (first | exact Drawn0.refl _ | apply Drawn0.step)⟩
 ·rw [if_neg c4] at H; have c4b0 : decide (a1 ≤ a0) = false := decide_eq_false c4; clear c4; (try simp only [c4b0])
  obtain rfl := Option.some.inj H
  go_enter Try.func72, Try.ntmps72
  go_wp2
  go_ret
  exact ⟨by first | rfl | (simp; done) | (simp [*]; done), by repeat (first | exact Drawn0.refl _ | apply Drawn0.step)⟩

/-! ### impl_MemberOk: function 114 -/
def impl_MemberOk.f (a0_0 : Int) (a0_1 : Int) (a0_2 : Int) : Option (Bool) := (impl_within.f a0_0 0 11).bind fun t224 => (if t224 = true then ((impl_within.f a0_1 0 3).bind fun t225 => (if t225 = true then ((impl_within.f a0_2 0 1000).bind fun t226 => (some t226)) else (some false))) else (some false))
set_option maxHeartbeats 8000000 in
set_option maxRecDepth 100000 in
theorem impl_MemberOk.calls (a0_0 : Int) (a0_1 : Int) (a0_2 : Int) (r : Bool) (w : World) (h : impl_MemberOk.f a0_0 a0_1 a0_2 = some r) :
  Calls Try.prog 114 #[.agg #[.int .i64 a0_0, .int .i64 a0_1, .int .i64 a0_2]] w fun e w' => e = .returned (.bool r) ∧ Below w.heap.size w w' := by
 have hu82 := Try.underlying82
 have HB := Aside0.mk (Below.refl w.heap.size w)
 have H : ((impl_within.f a0_0 0 11).bind fun t224 => (if t224 = true then ((impl_within.f a0_1 0 3).bind fun t225 => (if t225 = true then ((impl_within.f a0_2 0 1000).bind fun t226 => (some t226)) else (some false))) else (some false))) = some r := h
 clear h; replace H := Option.bind_eq_some_iff.mp H; obtain ⟨t224, A20, H⟩ := H; have A2 := Aside0.mk A20; clear A20; go_enter Try.func114, Try.ntmps114
 replace H := Aside0.mk H
 go_wp2_with (first | ((with_reducible refine gate_dst (N := 1) rfl ?_); refine box_event ?hg (N := 1) ?hd (cs := #[.int .i64 a0_0, .int .i64 a0_1, .int .i64 a0_2]) (t := 82) ?hr ?_; (case hd => rfl); (case hg => rfl); (case hr => first | (go_simp; done) | (go_simp; rfl)); intro gb223 hg w3 hbox hb; have n_ := an (below_step (by exact bel0) hb) (an (hbox) (an ((by rw [hg]; exact (below_size (by exact bel0)) : w.heap.size ≤ gb223)) (an ((by rw [hg]; exact (below_size (by exact bel0)) : w.heap.size ≤ gb223)) (trivial)))); clear HB; obtain ⟨HB, BK223, GW223, GE223, -⟩ := n_; clear hb hbox hg; obtain ⟨hcz4_0, hcz4_1, hcz4_2⟩ := blkz3 BK223.out; have hfz4_0 := blkf BK223.out) | ((with_reducible refine gate_callee (f := 72) rfl ?_); refine goesL_ (some 5) rfl rfl Try.func72 (by kernel_rfl) rfl #[.int .i64 a0_0, .int .i64 0, .int .i64 11] rfl (by (try simp only [List.map_toArray, List.map_cons, List.map_nil]); first | done | rfl | (simp only [List.length_drop, List.length_take]; rfl)) ?_; (with_reducible refine (impl_within.calls a0_0 0 11 t224 _ A2.out).mono ?_); rintro e w' ⟨rfl, ⟨nd, rfl⟩⟩; refine ⟨_, rfl, ?_⟩; refine Stop.out ?_))
 refine Stop.mk ?_
 replace H := H.out
 by_cases c5 : t224 = true
 ·subst c5; rw [if_pos rfl] at H; replace H := Option.bind_eq_some_iff.mp H; obtain ⟨t225, A60, H⟩ := H; have A6 := Aside0.mk A60; clear A60; obtain ⟨hcz7_0, hcz7_1, hcz7_2⟩ := blkz3 BK223.out; have hfz7_0 := blkf BK223.out
  replace H := Aside0.mk H
  go_wp2_with (first | (go_at_call 72; (with_reducible refine (impl_within.calls a0_1 0 3 t225 _ A6.out).mono ?_); rintro e w' ⟨rfl, ⟨nd, rfl⟩⟩; refine Stop.out ?_))
  refine Stop.mk ?_
  replace H := H.out
  by_cases c8 : t225 = true
  ·subst c8; rw [if_pos rfl] at H; replace H := Option.bind_eq_some_iff.mp H; obtain ⟨t226, A90, H⟩ := H; have A9 := Aside0.mk A90; clear A90
   obtain rfl := Option.some.inj H
   obtain ⟨hcz10_0, hcz10_1, hcz10_2⟩ := blkz3 BK223.out; have hfz10_0 := blkf BK223.out
   go_wp2_with (first | (go_at_call 72; (with_reducible refine (impl_within.calls a0_2 0 1000 t226 _ A9.out).mono ?_); rintro e w' ⟨rfl, ⟨nd, rfl⟩⟩))
   go_ret
   exact ⟨by first | rfl | (simp [errW_none, errW_some] <;> rfl) | (simp [*, errW_none, errW_some] <;> rfl), by exact bel0⟩
  ·replace c8 := Bool.eq_false_iff.mpr c8
   subst c8
   rw [if_neg (show ¬ (false = true) by decide)] at H
   obtain rfl := Option.some.inj H
   go_wp2
   go_ret
   exact ⟨by first | rfl | (simp [errW_none, errW_some] <;> rfl) | (simp [*, errW_none, errW_some] <;> rfl), by exact bel0⟩
 ·replace c5 := Bool.eq_false_iff.mpr c5
  subst c5
  rw [if_neg (show ¬ (false = true) by decide)] at H
  obtain rfl := Option.some.inj H
  go_wp2
  go_ret
  exact ⟨by first | rfl | (simp [errW_none, errW_some] <;> rfl) | (simp [*, errW_none, errW_some] <;> rfl), by exact bel0⟩

-- NOT PRINTED: function 170 (impl_Member_int)

/-! ### impl_Table_member: function 133 -/
def impl_Table_member.cmpI (a b : Int) : Int := if a < b then -1 else if a > b then 1 else 0
theorem impl_Table_member.nan_calls (x : Int) (w : World) : Calls Try.prog 191 #[.int .i64 x] w fun e w' => e = .returned (.bool false) ∧ w' = w := by
 go_enter Try.func191, Try.ntmps191
 go_wp2
 go_ret
 exact ⟨by simp, rfl⟩
theorem impl_Table_member.cmp_calls (x y : Int) (w : World) : Calls Try.prog 172 #[.int .i64 x, .int .i64 y] w fun e w' => e = .returned (.int .i64 (impl_Table_member.cmpI x y)) ∧ w' = w := by
 go_enter Try.func172, Try.ntmps172
 by_cases h1 : x < y
 ·have d1 : decide (x < y) = true := decide_eq_true h1
  go_wp2_with (go_at_call 191; refine (impl_Table_member.nan_calls _ _).mono ?_; rintro e w' ⟨rfl, rfl⟩)
  go_ret
  exact ⟨by simp [impl_Table_member.cmpI, h1], rfl⟩
 ·have d1 : decide (x < y) = false := decide_eq_false h1
  by_cases h2 : y < x
  ·have d2 : decide (y < x) = true := decide_eq_true h2
   go_wp2_with (go_at_call 191; refine (impl_Table_member.nan_calls _ _).mono ?_; rintro e w' ⟨rfl, rfl⟩)
   go_ret
   exact ⟨by simp [impl_Table_member.cmpI, h1, h2], rfl⟩
  ·have d2 : decide (y < x) = false := decide_eq_false h2
   go_wp2_with (go_at_call 191; refine (impl_Table_member.nan_calls _ _).mono ?_; rintro e w' ⟨rfl, rfl⟩)
   go_ret
   refine ⟨?_, rfl⟩
   show Ending.returned (.int .i64 0) = .returned (.int .i64 (impl_Table_member.cmpI x y))
   unfold impl_Table_member.cmpI
   rw [if_neg (by omega), if_neg (by omega)]
theorem impl_Table_member.key_calls (a0 a1 a2 id : Int) (w : World) : Calls Try.prog 171 #[.agg #[.int .i64 a0, .int .i64 a1, .int .i64 a2], .int .i64 id] w fun e w' => e = .returned (.int .i64 (impl_Table_member.cmpI a0 id)) ∧ Below w.heap.size w w' := by
 have hu82 := Try.underlying82
 go_enter Try.func171, Try.ntmps171
 go_wp2_with (go_at_call 172; refine (impl_Table_member.cmp_calls _ _ _).mono ?_; rintro e w' ⟨rfl, rfl⟩)
 go_ret
 exact ⟨rfl, by repeat (first | (with_reducible exact Below.refl _ _) | (with_reducible apply below_alloc))⟩
def impl_Table_member.srchl0 : Nat → List S82 → Int → Nat → Nat → Option (Int × Bool)
  | 0, _, _, _, _ => none
  | k + 1, x, id, lo, hi => if lo < hi then (if impl_Table_member.cmpI (rd_T82 x (((lo : Int) + (hi : Int)) / 2)).f0 id < 0 then impl_Table_member.srchl0 k x id ((lo + hi) / 2 + 1) hi else impl_Table_member.srchl0 k x id lo ((lo + hi) / 2))
    else some ((lo : Int), decide (lo < x.length) && (impl_Table_member.cmpI (rd_T82 x (lo : Int)).f0 id == 0))
def impl_Table_member.srchf (k : Nat) (x : List S82) (id : Int) : Option (Int × Bool) := if x.length < 4611686018427387904 then impl_Table_member.srchl0 k x id 0 x.length else none
set_option maxHeartbeats 8000000 in
set_option maxRecDepth 100000 in
theorem impl_Table_member.srchcalls (k : Nat) (A0 : Option Addr) (c0 : Nat) (l0 : List S82) (id r1 : Int) (r2 : Bool) (w : World) (hr0 : Kd.C k82 w A0 l0.length l0) (hc0 : l0.length ≤ c0) (h : impl_Table_member.srchf k l0 id = some (r1, r2)) :
  Calls Try.prog 170 #[.slice A0 l0.length c0, .int .i64 id, .func (.func 171) #[] #[]] w fun e w' => e = .returned (.tuple #[.int .i64 r1, .bool r2]) ∧ Below w.heap.size w w' := by
 have hu82 := Try.underlying82
 have HR0 := Aside0.mk hr0; clear hr0 hc0
 unfold impl_Table_member.srchf at h
 by_cases hsz : l0.length < 4611686018427387904
 ·rw [if_pos hsz] at h
  have HB0 := Aside0.mk (Below.refl w.heap.size w)
  have H' := Aside0.mk h
  clear h; go_enter Try.func170, Try.ntmps170
  go_wp2
  go_loopg [9, 10] k (fun kx s9 s10 wr => ∃ lo hi : Nat, s9 = .int .i64 lo ∧ s10 = .int .i64 hi ∧ lo ≤ hi ∧ hi ≤ l0.length ∧ Aside0 (impl_Table_member.srchl0 kx l0 id lo hi = some (r1, r2)) ∧ Aside0 (Below w.heap.size w wr))
  case atStart => exact ⟨0, l0.length, rfl, rfl, Nat.zero_le _, Nat.le_refl _, H', HB0⟩
  case round =>
   clear H' HB0
   obtain ⟨lo, hi, rfl, rfl, hlh, hin, HA, HB⟩ := hrel
   cases gk with
   | zero => exact absurd HA.out (by simp [impl_Table_member.srchl0])
   | succ k1 =>
    have H := HA.out; clear HA
    simp only [impl_Table_member.srchl0] at H
    by_cases hlt : lo < hi
    ·rw [if_pos hlt] at H
     obtain ⟨ad, ead, hx0, hx1, hx2⟩ := at_T82 HR0.out (((lo : Int) + (hi : Int)) / 2) (by omega) (by omega)
     cases ead
     replace hx0 := pw_cell_below HB.out hx0
     replace hx1 := pw_cell_below HB.out hx1
     replace hx2 := pw_cell_below HB.out hx2
     have e_ : (((lo : Int) + (hi : Int)) / 2).toNat = (lo + hi) / 2 := by omega
     rw [e_] at hx0 hx1 hx2
     by_cases hc : impl_Table_member.cmpI (rd_T82 l0 (((lo : Int) + (hi : Int)) / 2)).f0 id < 0
     ·rw [if_pos hc] at H; have H2 := Aside0.mk H; clear H
      go_wp2_with (go_at_call 171; refine (impl_Table_member.key_calls _ _ _ _ _).mono ?_; rintro e w2 ⟨rfl, hb⟩)
      go_roundg k1
      case measure => omega
      case rel => exact ⟨(lo + hi) / 2 + 1, hi, by rw [show ((lo : Int) + (hi : Int)) / 2 + 1 = (((lo + hi) / 2 + 1 : Nat) : Int) by omega], rfl, by omega, hin, H2, ⟨below_step HB.out hb⟩⟩
     ·rw [if_neg hc] at H; have H2 := Aside0.mk H; clear H
      go_wp2_with (go_at_call 171; refine (impl_Table_member.key_calls _ _ _ _ _).mono ?_; rintro e w2 ⟨rfl, hb⟩)
      go_roundg k1
      case measure => omega
      case rel => exact ⟨lo, (lo + hi) / 2, rfl, by rw [show ((lo : Int) + (hi : Int)) / 2 = (((lo + hi) / 2 : Nat) : Int) by omega], by omega, by omega, H2, ⟨below_step HB.out hb⟩⟩
    ·rw [if_neg hlt] at H
     obtain rfl : hi = lo := by omega
     simp only [Option.some.injEq, Prod.mk.injEq] at H; obtain ⟨rfl, rfl⟩ := H
     by_cases hn : hi < l0.length
     ·obtain ⟨ad, ead, hx0, hx1, hx2⟩ := at_T82 HR0.out (hi : Int) (by omega) (by omega)
      cases ead
      replace hx0 := pw_cell_below HB.out hx0
      replace hx1 := pw_cell_below HB.out hx1
      replace hx2 := pw_cell_below HB.out hx2
      rw [Int.toNat_natCast] at hx0 hx1 hx2
      go_wp2_with (go_at_call 171; refine (impl_Table_member.key_calls _ _ _ _ _).mono ?_; rintro e w2 ⟨rfl, hb⟩)
      go_ret2
      exact ⟨by simp [hn], below_step HB.out hb⟩
     ·go_wp2
      go_ret2
      exact ⟨by simp [hn], HB.out⟩
 ·rw [if_neg hsz] at h
  exact absurd h (by simp)
theorem impl_Table_member.srchmono_l : ∀ (k : Nat) (x : List S82) (id : Int) (lo hi : Nat), LeO (impl_Table_member.srchl0 k x id lo hi) (impl_Table_member.srchl0 (k + 1) x id lo hi)
 | 0, _, _, _, _ => fun r h => by simp [impl_Table_member.srchl0] at h
 | k + 1, x, id, lo, hi => by
  have ih := impl_Table_member.srchmono_l k
  rw [impl_Table_member.srchl0, impl_Table_member.srchl0]
  repeat' first
   | (with_reducible exact ih _ _ _ _)
   | (with_reducible exact LeO.refl _)
   | (with_reducible refine LeO.ite ?_ ?_)
def impl_Table_member.f (k : Nat) (a0_0 : Int) (l0_1 : List S82) (a1 : Int) : Option (Int × Bool) := impl_Table_member.srchf k l0_1 a1
theorem impl_Table_member.mono : ∀ a0 a1 a2 k, LeO (impl_Table_member.f k a0 a1 a2) (impl_Table_member.f (k + 1) a0 a1 a2) := by
 intro a0 a1 a2 k
 unfold impl_Table_member.f impl_Table_member.srchf
 refine LeO.ite (impl_Table_member.srchmono_l _ _ _ _ _) (LeO.refl _)
set_option maxHeartbeats 8000000 in
set_option maxRecDepth 100000 in
theorem impl_Table_member.calls (k : Nat) (a0_0 : Int) (A0_1 : Option Addr) (c0_1 : Nat) (l0_1 : List S82) (a1 : Int) (r1 : Int) (r2 : Bool) (w : World) (hr0_1 : Kd.C k82 w A0_1 l0_1.length l0_1) (hc0_1 : l0_1.length ≤ c0_1) (h : impl_Table_member.f k a0_0 l0_1 a1 = some (r1, r2)) :
  Calls Try.prog 133 #[.agg #[.int .i64 a0_0, .slice A0_1 l0_1.length c0_1], .int .i64 a1] w fun e w' => e = .returned (.tuple #[.int .i64 r1, .bool r2]) ∧ Below w.heap.size w w' := by
 have hu41 := Try.underlying41
 go_enter Try.func133, Try.ntmps133
 go_wp2_with (go_at_call 170; refine (impl_Table_member.srchcalls k _ _ _ _ _ _ _ ?side1 hc0_1 h).mono ?_; (case side1 => repeat (first | exact hr0_1 | (with_reducible refine Kd.C_alloc ?_ _))); rintro e w' ⟨rfl, hb⟩)
 go_ret2
 exact ⟨rfl, below_step (by repeat (first | (with_reducible exact Below.refl _ _) | (with_reducible apply below_alloc))) hb⟩

end Go.Proofs.Ytigoajblljolcaa.XFnExactMerge
