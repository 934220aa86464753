-- Written by this session's own program (xprint.py) over the kit's print.
import Derived.Test.YtigoajblljolcaaXFnExactLeavex0
import Derived.Test.YtigoajblljolcaaXFnExactLeavex1
import Derived.Test.YtigoajblljolcaaXFnExactLeavex3
import Derived.Test.YtigoajblljolcaaXFnExactLeavex5
import Derived.Test.YtigoajblljolcaaXFnExactLeavex6
namespace Go.Proofs.Ytigoajblljolcaa.XFnExactLeave
open Go.RowKit Go.Proofs.YtigoajblljolcaaW.PrintWords Go.Proofs.YtigoajblljolcaaW.PrintLast Go.Proofs.YtigoajblljolcaaW.PrintMore
attribute [local go_sem] max2_int min2_int max_two min_two max_three min_three max_four min_four   -- for this text's walks alone
set_option linter.unusedVariables false
set_option linter.unusedSimpArgs false

/-! ### laws_FnExactLeave: function 4 -/
mutual
def laws_FnExactLeave.j0 : Nat → Bool → Bool → Bool → Int → List (S80) → Int → List (S82) → Int → List (S82) → Int → List (S82) → Option (Bool)
  | 0, _, _, _, _, _, _, _, _, _, _, _ => none
  | k + 1, x5, x8, x40, x194000, x194001, x205000, x205001, x210000, x210001, x216000, x216001 => if x40 = true then (some false) else ((laws_toTable.f k x194000 x194001).bind fun bt217 => ((laws_eqTable.f k x210000 x210001 bt217.1 bt217.2).bind fun t221 => (if t221 = true then ((laws_markTable.f k x210000 x210001 1).bind fun bt222 => (if bt222.1 < 0 then (laws_FnExactLeave.j1 k x5 true x194000 x194001 x205000 x205001 x216000 x216001) else ((laws_eqTable.f k x216000 x216001 x205000 x205001).bind fun t224 => (if t224 = true then (laws_FnExactLeave.j1 k x5 (x8 != x5) x194000 x194001 x205000 x205001 x216000 x216001) else (laws_FnExactLeave.j1 k x5 true x194000 x194001 x205000 x205001 x216000 x216001))))) else (some false))))
def laws_FnExactLeave.j1 : Nat → Bool → Bool → Int → List (S80) → Int → List (S82) → Int → List (S82) → Option (Bool)
  | 0, _, _, _, _, _, _, _, _ => none
  | k + 1, x5, x61, x194000, x194001, x205000, x205001, x216000, x216001 => if x61 = true then (some false) else ((laws_markTable.f k x216000 x216001 1).bind fun bt225 => ((laws_heldTable.f k x216000 bt225.2 1).bind fun t227 => (if t227 < 0 then (some false) else (if t227 = bt225.1 then ((laws_toTable.f k x194000 x194001).bind fun bt228 => ((impl_Leave.f k bt228.1 bt228.2).bind fun bt232 => ((laws_eqTable.f k bt232.1 bt232.2.1 x205000 x205001).bind fun t238 => (if t238 = true then (laws_FnExactLeave.j2 k bt225.1 (bt232.2.2 != x5) x216000 bt225.2) else (laws_FnExactLeave.j2 k bt225.1 true x216000 bt225.2))))) else (some false)))))
def laws_FnExactLeave.j2 : Nat → Int → Bool → Int → List (S82) → Option (Bool)
  | 0, _, _, _, _ => none
  | k + 1, x10, x87, x216000, x216001 => if x87 = true then (some false) else ((laws_heldTable.f k x216000 x216001 1).bind fun t239 => (if t239 < 0 then (some false) else (if t239 = x10 then (some true) else (some false))))
end
def laws_FnExactLeave.f (k : Nat) (a0_0 : Int) (l0_1 : List (S80)) : Option (Bool) := (laws_szTable.f a0_0 l0_1 1048576).bind fun t194 => (if t194 < 0 then (some true) else ((laws_toTable.f k a0_0 l0_1).bind fun bt195 => ((spec_Leave.f k bt195.1 bt195.2).bind fun bt199 => ((laws_toTable.f k a0_0 l0_1).bind fun bt205 => ((impl_Leave.f k bt205.1 bt205.2).bind fun bt210 => ((laws_eqTable.f k bt210.1 bt210.2.1 bt199.1 bt199.2.1).bind fun t216 => (if t216 = true then (laws_FnExactLeave.j0 k bt199.2.2 bt210.2.2 (bt210.2.2 != bt199.2.2) a0_0 l0_1 bt199.1 bt199.2.1 bt205.1 bt205.2 bt210.1 bt210.2.1) else (laws_FnExactLeave.j0 k bt199.2.2 bt210.2.2 true a0_0 l0_1 bt199.1 bt199.2.1 bt205.1 bt205.2 bt210.1 bt210.2.1))))))))
theorem laws_FnExactLeave.mono_l : ∀ k, (∀ y0 y1 y2 y3 y4 y5 y6 y7 y8 y9 y10, LeO (laws_FnExactLeave.j0 k y0 y1 y2 y3 y4 y5 y6 y7 y8 y9 y10) (laws_FnExactLeave.j0 (k + 1) y0 y1 y2 y3 y4 y5 y6 y7 y8 y9 y10)) ∧ (∀ y0 y1 y2 y3 y4 y5 y6 y7, LeO (laws_FnExactLeave.j1 k y0 y1 y2 y3 y4 y5 y6 y7) (laws_FnExactLeave.j1 (k + 1) y0 y1 y2 y3 y4 y5 y6 y7)) ∧ (∀ y0 y1 y2 y3, LeO (laws_FnExactLeave.j2 k y0 y1 y2 y3) (laws_FnExactLeave.j2 (k + 1) y0 y1 y2 y3))
 | 0 => ⟨fun _ _ _ _ _ _ _ _ _ _ _ r h => by simp [laws_FnExactLeave.j0] at h, fun _ _ _ _ _ _ _ _ r h => by simp [laws_FnExactLeave.j1] at h, fun _ _ _ _ r h => by simp [laws_FnExactLeave.j2] at h⟩
 | k + 1 => by
  obtain ⟨ih0, ih1, ih2⟩ := laws_FnExactLeave.mono_l k
  refine ⟨?_, ?_, ?_⟩
  ·intro y0 y1 y2 y3 y4 y5 y6 y7 y8 y9 y10
   unfold laws_FnExactLeave.j0
   repeat' first
   | (with_reducible exact ih0 _ _ _ _ _ _ _ _ _ _ _)
   | (with_reducible exact ih1 _ _ _ _ _ _ _ _)
   | (with_reducible exact ih2 _ _ _ _)
   | (with_reducible exact impl_Leave.mono _ _ _)
   | (with_reducible exact laws_eqTable.mono _ _ _ _ _)
   | (with_reducible exact laws_heldTable.mono _ _ _ _)
   | (with_reducible exact laws_markTable.mono _ _ _ _)
   | (with_reducible exact laws_toTable.mono _ _ _)
   | (with_reducible exact spec_Leave.mono _ _ _)
   | (with_reducible exact LeO.refl _)
   | (with_reducible exact LeO.none _)
   | (with_reducible refine LeO.ite ?_ ?_)
   | (with_reducible refine LeO.bind ?_ (fun _ => ?_))
   | exact ih0 _ _ _ _ _ _ _ _ _ _ _
   | exact ih1 _ _ _ _ _ _ _ _
   | exact ih2 _ _ _ _
   | exact impl_Leave.mono _ _ _
   | exact laws_eqTable.mono _ _ _ _ _
   | exact laws_heldTable.mono _ _ _ _
   | exact laws_markTable.mono _ _ _ _
   | exact laws_toTable.mono _ _ _
   | exact spec_Leave.mono _ _ _
   | exact LeO.none _
   | refine LeO.ite ?_ ?_
   | refine LeO.bind ?_ (fun _ => ?_)
  ·intro y0 y1 y2 y3 y4 y5 y6 y7
   unfold laws_FnExactLeave.j1
   repeat' first
   | (with_reducible exact ih0 _ _ _ _ _ _ _ _ _ _ _)
   | (with_reducible exact ih1 _ _ _ _ _ _ _ _)
   | (with_reducible exact ih2 _ _ _ _)
   | (with_reducible exact impl_Leave.mono _ _ _)
   | (with_reducible exact laws_eqTable.mono _ _ _ _ _)
   | (with_reducible exact laws_heldTable.mono _ _ _ _)
   | (with_reducible exact laws_markTable.mono _ _ _ _)
   | (with_reducible exact laws_toTable.mono _ _ _)
   | (with_reducible exact spec_Leave.mono _ _ _)
   | (with_reducible exact LeO.refl _)
   | (with_reducible exact LeO.none _)
   | (with_reducible refine LeO.ite ?_ ?_)
   | (with_reducible refine LeO.bind ?_ (fun _ => ?_))
   | exact ih0 _ _ _ _ _ _ _ _ _ _ _
   | exact ih1 _ _ _ _ _ _ _ _
   | exact ih2 _ _ _ _
   | exact impl_Leave.mono _ _ _
   | exact laws_eqTable.mono _ _ _ _ _
   | exact laws_heldTable.mono _ _ _ _
   | exact laws_markTable.mono _ _ _ _
   | exact laws_toTable.mono _ _ _
   | exact spec_Leave.mono _ _ _
   | exact LeO.none _
   | refine LeO.ite ?_ ?_
   | refine LeO.bind ?_ (fun _ => ?_)
  ·intro y0 y1 y2 y3
   unfold laws_FnExactLeave.j2
   repeat' first
   | (with_reducible exact ih0 _ _ _ _ _ _ _ _ _ _ _)
   | (with_reducible exact ih1 _ _ _ _ _ _ _ _)
   | (with_reducible exact ih2 _ _ _ _)
   | (with_reducible exact impl_Leave.mono _ _ _)
   | (with_reducible exact laws_eqTable.mono _ _ _ _ _)
   | (with_reducible exact laws_heldTable.mono _ _ _ _)
   | (with_reducible exact laws_markTable.mono _ _ _ _)
   | (with_reducible exact laws_toTable.mono _ _ _)
   | (with_reducible exact spec_Leave.mono _ _ _)
   | (with_reducible exact LeO.refl _)
   | (with_reducible exact LeO.none _)
   | (with_reducible refine LeO.ite ?_ ?_)
   | (with_reducible refine LeO.bind ?_ (fun _ => ?_))
   | exact ih0 _ _ _ _ _ _ _ _ _ _ _
   | exact ih1 _ _ _ _ _ _ _ _
   | exact ih2 _ _ _ _
   | exact impl_Leave.mono _ _ _
   | exact laws_eqTable.mono _ _ _ _ _
   | exact laws_heldTable.mono _ _ _ _
   | exact laws_markTable.mono _ _ _ _
   | exact laws_toTable.mono _ _ _
   | exact spec_Leave.mono _ _ _
   | exact LeO.none _
   | refine LeO.ite ?_ ?_
   | refine LeO.bind ?_ (fun _ => ?_)
theorem laws_FnExactLeave.mono : ∀ a0 a1 k, LeO (laws_FnExactLeave.f k a0 a1) (laws_FnExactLeave.f (k + 1) a0 a1) := by
 intro a0 a1 k
 obtain ⟨ih0, ih1, ih2⟩ := laws_FnExactLeave.mono_l k
 unfold laws_FnExactLeave.f
 repeat' first
   | (with_reducible exact ih0 _ _ _ _ _ _ _ _ _ _ _)
   | (with_reducible exact ih1 _ _ _ _ _ _ _ _)
   | (with_reducible exact ih2 _ _ _ _)
   | (with_reducible exact impl_Leave.mono _ _ _)
   | (with_reducible exact laws_eqTable.mono _ _ _ _ _)
   | (with_reducible exact laws_heldTable.mono _ _ _ _)
   | (with_reducible exact laws_markTable.mono _ _ _ _)
   | (with_reducible exact laws_toTable.mono _ _ _)
   | (with_reducible exact spec_Leave.mono _ _ _)
   | (with_reducible exact LeO.refl _)
   | (with_reducible exact LeO.none _)
   | (with_reducible refine LeO.ite ?_ ?_)
   | (with_reducible refine LeO.bind ?_ (fun _ => ?_))
   | exact ih0 _ _ _ _ _ _ _ _ _ _ _
   | exact ih1 _ _ _ _ _ _ _ _
   | exact ih2 _ _ _ _
   | exact impl_Leave.mono _ _ _
   | exact laws_eqTable.mono _ _ _ _ _
   | exact laws_heldTable.mono _ _ _ _
   | exact laws_markTable.mono _ _ _ _
   | exact laws_toTable.mono _ _ _
   | exact spec_Leave.mono _ _ _
   | exact LeO.none _
   | refine LeO.ite ?_ ?_
   | refine LeO.bind ?_ (fun _ => ?_)
set_option maxHeartbeats 8000000 in
set_option maxRecDepth 100000 in
theorem laws_FnExactLeave.calls (k : Nat) (a0_0 : Int) (A0_1 : Option Addr) (c0_1 : Nat) (l0_1 : List (S80)) (r : Bool) (w : World) (hr0_1 : Kd.C k80 w A0_1 l0_1.length l0_1) (hc0_1 : l0_1.length ≤ c0_1) (h : laws_FnExactLeave.f k a0_0 l0_1 = some r) :
  Calls Try.prog 4 #[.agg #[.int .i64 a0_0, .slice A0_1 l0_1.length c0_1]] w fun e w' => e = .returned (.bool r) ∧ Below w.heap.size w w' := by
 have hu37 := Try.underlying37
 have hu41 := Try.underlying41
 have HR0_1 := Aside0.mk hr0_1; have HC0_1 := Aside0.mk hc0_1; clear hr0_1 hc0_1
 have HB := Aside0.mk (Below.refl w.heap.size w)
 have H : ((laws_szTable.f a0_0 l0_1 1048576).bind fun t194 => (if t194 < 0 then (some true) else ((laws_toTable.f k a0_0 l0_1).bind fun bt195 => ((spec_Leave.f k bt195.1 bt195.2).bind fun bt199 => ((laws_toTable.f k a0_0 l0_1).bind fun bt205 => ((impl_Leave.f k bt205.1 bt205.2).bind fun bt210 => ((laws_eqTable.f k bt210.1 bt210.2.1 bt199.1 bt199.2.1).bind fun t216 => (if t216 = true then (laws_FnExactLeave.j0 k bt199.2.2 bt210.2.2 (bt210.2.2 != bt199.2.2) a0_0 l0_1 bt199.1 bt199.2.1 bt205.1 bt205.2 bt210.1 bt210.2.1) else (laws_FnExactLeave.j0 k bt199.2.2 bt210.2.2 true a0_0 l0_1 bt199.1 bt199.2.1 bt205.1 bt205.2 bt210.1 bt210.2.1))))))))) = some r := h
 clear h; replace H := Option.bind_eq_some_iff.mp H; obtain ⟨t194, A20, H⟩ := H; have A2 := Aside0.mk A20; clear A20; go_enter Try.func4, Try.ntmps4
 replace H := Aside0.mk H
 go_wp2_with (first | ((with_reducible refine gate_dst (N := 1) rfl ?_); refine box_event ?hg (N := 1) ?hd (cs := #[.int .i64 a0_0, .slice A0_1 l0_1.length c0_1]) (t := 37) ?hr ?_; (case hd => rfl); (case hg => rfl); (case hr => first | (go_simp; done) | (go_simp; rfl)); intro gb193 hg w3 hbox hb; have n_ := an (below_step (by exact bel0) hb) (an (hbox) (an ((by rw [hg]; exact (below_size (by exact bel0)) : w.heap.size ≤ gb193)) (an ((by rw [hg]; exact (below_size (by exact bel0)) : w.heap.size ≤ gb193)) (trivial)))); clear HB; obtain ⟨HB, BK193, GW193, GE193, -⟩ := n_; clear hb hbox hg; obtain ⟨hcz4_0, hcz4_1⟩ := blkz2 BK193.out; have hfz4_0 := blkf BK193.out) | ((with_reducible refine gate_callee (f := 23) rfl ?_); refine goesL_ (some 16) rfl rfl Try.func23 (by kernel_rfl) rfl #[.agg #[.int .i64 a0_0, .slice A0_1 l0_1.length c0_1], .int .i64 1048576] rfl (by (try simp only [List.map_toArray, List.map_cons, List.map_nil]); first | done | rfl | (simp only [List.length_drop, List.length_take]; rfl)) ?_; (with_reducible refine (laws_szTable.calls a0_0 _ _ l0_1 1048576 t194 _ ?side1 ?side2 A2.out).mono ?_); (case side1 => repeat (first | exact (Kd.C_below HR0_1.out HB.out) | (with_reducible refine Kd.C_alloc ?_ _) | (with_reducible refine Kd.C_drewN ?_ _) | (with_reducible refine Kd.C_drew ?_))); (case side2 => exact HC0_1.out); rintro e w5 ⟨rfl, hb⟩; refine ⟨_, rfl, ?_⟩; have n_ := an (blk_below (blk_nw BK193.out) hb) (an (below_step (by exact bel0) hb) (trivial)); clear BK193 HB; obtain ⟨BK193, HB, -⟩ := n_; (try clear hb); (try clear hb2); (try clear hk); (try clear hi); refine Stop.out ?_))
 refine Stop.mk ?_
 replace H := H.out
 by_cases c6 : t194 < 0
 ·rw [if_pos c6] at H; have c6b0 : decide (t194 < 0) = true := decide_eq_true c6; clear c6; (try simp only [c6b0])
  obtain rfl := Option.some.inj H
  go_wp2
  go_ret
  exact ⟨by first | rfl | (simp [errW_none, errW_some] <;> rfl) | (simp [*, errW_none, errW_some] <;> rfl), by exact bel0⟩
 ·rw [if_neg c6] at H; have c6b0 : decide (t194 < 0) = false := decide_eq_false c6; clear c6; (try simp only [c6b0]); replace H := Option.bind_eq_some_iff.mp H
  obtain ⟨⟨t195, t196⟩, A70, H⟩ := H
  replace H : ((spec_Leave.f k t195 t196).bind fun bt199 => ((laws_toTable.f k a0_0 l0_1).bind fun bt205 => ((impl_Leave.f k bt205.1 bt205.2).bind fun bt210 => ((laws_eqTable.f k bt210.1 bt210.2.1 bt199.1 bt199.2.1).bind fun t216 => (if t216 = true then (laws_FnExactLeave.j0 k bt199.2.2 bt210.2.2 (bt210.2.2 != bt199.2.2) a0_0 l0_1 bt199.1 bt199.2.1 bt205.1 bt205.2 bt210.1 bt210.2.1) else (laws_FnExactLeave.j0 k bt199.2.2 bt210.2.2 true a0_0 l0_1 bt199.1 bt199.2.1 bt205.1 bt205.2 bt210.1 bt210.2.1)))))) = some r := H
  have A7 := Aside0.mk A70; clear A70; replace H := Option.bind_eq_some_iff.mp H
  obtain ⟨⟨t199, t200, t203⟩, A80, H⟩ := H
  replace H : ((laws_toTable.f k a0_0 l0_1).bind fun bt205 => ((impl_Leave.f k bt205.1 bt205.2).bind fun bt210 => ((laws_eqTable.f k bt210.1 bt210.2.1 t199 t200).bind fun t216 => (if t216 = true then (laws_FnExactLeave.j0 k t203 bt210.2.2 (bt210.2.2 != t203) a0_0 l0_1 t199 t200 bt205.1 bt205.2 bt210.1 bt210.2.1) else (laws_FnExactLeave.j0 k t203 bt210.2.2 true a0_0 l0_1 t199 t200 bt205.1 bt205.2 bt210.1 bt210.2.1))))) = some r := H
  have A8 := Aside0.mk A80; clear A80; replace H := Option.bind_eq_some_iff.mp H
  obtain ⟨⟨t205, t206⟩, A90, H⟩ := H
  replace H : ((impl_Leave.f k t205 t206).bind fun bt210 => ((laws_eqTable.f k bt210.1 bt210.2.1 t199 t200).bind fun t216 => (if t216 = true then (laws_FnExactLeave.j0 k t203 bt210.2.2 (bt210.2.2 != t203) a0_0 l0_1 t199 t200 t205 t206 bt210.1 bt210.2.1) else (laws_FnExactLeave.j0 k t203 bt210.2.2 true a0_0 l0_1 t199 t200 t205 t206 bt210.1 bt210.2.1)))) = some r := H
  have A9 := Aside0.mk A90; clear A90; replace H := Option.bind_eq_some_iff.mp H
  obtain ⟨⟨t210, t211, t214⟩, A100, H⟩ := H
  replace H : ((laws_eqTable.f k t210 t211 t199 t200).bind fun t216 => (if t216 = true then (laws_FnExactLeave.j0 k t203 t214 (t214 != t203) a0_0 l0_1 t199 t200 t205 t206 t210 t211) else (laws_FnExactLeave.j0 k t203 t214 true a0_0 l0_1 t199 t200 t205 t206 t210 t211))) = some r := H
  have A10 := Aside0.mk A100; clear A100; have HC11 := Aside0.mk H; clear H; obtain ⟨hcz12_0, hcz12_1⟩ := blkz2 BK193.out; have hfz12_0 := blkf BK193.out
  go_upto_region 8 with (first | ((with_reducible refine gate_callee (f := 25) rfl ?_); refine goesL_ (some 21) rfl rfl Try.func25 (by kernel_rfl) rfl #[.agg #[.int .i64 a0_0, .slice A0_1 l0_1.length c0_1]] rfl (by (try simp only [List.map_toArray, List.map_cons, List.map_nil]); first | done | rfl | (simp only [List.length_drop, List.length_take]; rfl)) ?_; (with_reducible refine (laws_toTable.calls k a0_0 _ _ l0_1 t195 t196 _ ?side1 ?side2 A7.out).mono ?_); (case side1 => repeat (first | exact (Kd.C_below HR0_1.out HB.out) | (with_reducible refine Kd.C_alloc ?_ _) | (with_reducible refine Kd.C_drewN ?_ _) | (with_reducible refine Kd.C_drew ?_))); (case side2 => exact HC0_1.out); rintro e w13 ⟨v197, rfl, ho0, hb⟩; refine ⟨_, rfl, ?_⟩; have n_ := an (Kd.R_lower ho0 (below_size (by exact bel0))) (an (blk_below (blk_nw BK193.out) hb) (an (below_step (by exact bel0) hb) (trivial))); clear BK193 HB; obtain ⟨HO198, BK193, HB, -⟩ := n_; (try clear hb); (try clear hb2); (try clear hk); (try clear hi); (try clear ho0); obtain ⟨Ao14, co14, eo14⟩ := Kd.R_slice HO198.out; subst eo14) | ((with_reducible refine gate_callee (f := 24) rfl ?_); refine goesL_ (some 22) rfl rfl Try.func24 (by kernel_rfl) rfl #[.agg #[.int .i64 t195, .slice Ao14 t196.length co14]] rfl (by (try simp only [List.map_toArray, List.map_cons, List.map_nil]); first | done | rfl | (simp only [List.length_drop, List.length_take]; rfl)) ?_; (with_reducible refine (spec_Leave.calls k t195 _ _ t196 t199 t200 t203 _ ?side1 ?side2 A8.out).mono ?_); (case side1 => repeat (first | exact (Kd.R_reads' HO198.out).2.2 | (with_reducible refine Kd.C_alloc ?_ _) | (with_reducible refine Kd.C_drewN ?_ _) | (with_reducible refine Kd.C_drew ?_))); (case side2 => exact (Kd.R_reads' HO198.out).2.1); rintro e w15 ⟨v201, rfl, ho0, hb⟩; refine ⟨_, rfl, ?_⟩; have n_ := an (Kd.R_elder' (by exact Kd.R_nw HO198.out) (Kd.R_base ho0) hb) (an (Kd.R_lower (Kd.R_new' ho0 (Kd.R_lt (by exact Kd.R_nw HO198.out))) (below_size (by exact bel0))) (an (blk_below (blk_nw BK193.out) hb) (an (below_step (by exact bel0) hb) (trivial)))); clear HO198 BK193 HB; obtain ⟨HO198, HO202, BK193, HB, -⟩ := n_; (try clear hb); (try clear hb2); (try clear hk); (try clear hi); (try clear ho0)) | ((with_reducible refine gate_dst (N := 4) rfl ?_); refine box_event ?hg (N := 4) ?hd (cs := #[.int .i64 0, .slice none 0 0]) (t := 41) ?hr ?_; (case hd => rfl); (case hg => rfl); (case hr => first | (go_simp; done) | (go_simp; rfl)); intro gb204 hg w16 hbox hb; have n_ := an (Kd.R_below (by exact Kd.R_nw HO198.out) hb) (an (Kd.R_below (by exact Kd.R_nw HO202.out) hb) (an (blk_below (blk_nw BK193.out) hb) (an (below_step (by exact bel0) hb) (an (hbox) (an ((by rw [hg]; exact (below_size (by exact bel0)) : w.heap.size ≤ gb204)) (an ((by rw [hg]; exact (below_size (by exact bel0)) : w.heap.size ≤ gb204)) (an ((by rw [hg]; exact Nat.ne_of_lt (blk_lt (blk_nw BK193.out)) : gb193 ≠ gb204)) (an ((by rw [hg]; exact Nat.ne_of_gt (blk_lt (blk_nw BK193.out)) : gb204 ≠ gb193)) (trivial))))))))); clear HO198 HO202 BK193 HB; obtain ⟨HO198, HO202, BK193, HB, BK204, GW204, GE204, NB193_204, NB204_193, -⟩ := n_; clear hb hbox hg; have hnb17 := NB204_193.out; have hnc17 := NB193_204.out; obtain ⟨hcz18_0, hcz18_1⟩ := blkz2 BK204.out; have hfz18_0 := blkf BK204.out; obtain ⟨Ao19, co19, eo19⟩ := Kd.R_slice HO202.out; subst eo19; obtain ⟨hcz20_0, hcz20_1⟩ := blkz2 BK193.out; have hfz20_0 := blkf BK193.out) | ((with_reducible refine gate_callee (f := 25) rfl ?_); refine goesL_ (some 26) rfl rfl Try.func25 (by kernel_rfl) rfl #[.agg #[.int .i64 a0_0, .slice A0_1 l0_1.length c0_1]] rfl (by (try simp only [List.map_toArray, List.map_cons, List.map_nil]); first | done | rfl | (simp only [List.length_drop, List.length_take]; rfl)) ?_; (with_reducible refine (laws_toTable.calls k a0_0 _ _ l0_1 t205 t206 _ ?side1 ?side2 A9.out).mono ?_); (case side1 => exact Kd.C_below HR0_1.out (by exact bel0)); (case side2 => exact HC0_1.out); rintro e w21 ⟨v207, rfl, ho0, hb⟩; refine ⟨_, rfl, ?_⟩; have n_ := an (Kd.R_elder' (by exact (Kd.R_farN HO198.out BK204.out)) (Kd.R_base ho0) hb) (an (Kd.R_elder' (by exact (Kd.R_farN HO202.out BK204.out)) (Kd.R_base ho0) hb) (an (Kd.R_lower (Kd.R_new' (Kd.R_new' ho0 (Kd.R_lt (by exact (Kd.R_farN HO198.out BK204.out)))) (Kd.R_lt (by exact (Kd.R_farN HO202.out BK204.out)))) (below_size (by exact bel0))) (an (blk_below (blk_kb BK193.out NB193_204.out) hb) (an (blk_below (g := gb204) (o := .cells #[.int .i64 t199, .slice Ao19 t200.length co19] 41 (0, 0)) (by (with_reducible repeat (first | refine blk_drewN ?_ _ | refine blk_drew ?_ | refine blk_alloc ?_ _)); exact blk_fill2 BK204.out) hb) (an (below_step (by exact bel0) hb) (trivial)))))); clear HO198 HO202 BK193 BK204 HB; obtain ⟨HO198, HO202, HO208, BK193, BK204, HB, -⟩ := n_; (try clear hb); (try clear hb2); (try clear hk); (try clear hi); (try clear ho0)) | ((with_reducible refine gate_dst (N := 6) rfl ?_); refine box_event ?hg (N := 6) ?hd (cs := #[.int .i64 0, .slice none 0 0]) (t := 41) ?hr ?_; (case hd => rfl); (case hg => rfl); (case hr => first | (go_simp; done) | (go_simp; rfl)); intro gb209 hg w22 hbox hb; have n_ := an (Kd.R_below (by exact Kd.R_nw HO198.out) hb) (an (Kd.R_below (by exact Kd.R_nw HO202.out) hb) (an (Kd.R_below (by exact Kd.R_nw HO208.out) hb) (an (blk_below (blk_nw BK193.out) hb) (an (blk_below (blk_nw BK204.out) hb) (an (below_step (by exact bel0) hb) (an (hbox) (an ((by rw [hg]; exact (below_size (by exact bel0)) : w.heap.size ≤ gb209)) (an ((by rw [hg]; exact (below_size (by exact bel0)) : w.heap.size ≤ gb209)) (an ((by rw [hg]; exact Nat.ne_of_lt (blk_lt (blk_nw BK193.out)) : gb193 ≠ gb209)) (an ((by rw [hg]; exact Nat.ne_of_gt (blk_lt (blk_nw BK193.out)) : gb209 ≠ gb193)) (an ((by rw [hg]; exact Nat.ne_of_lt (blk_lt (blk_nw BK204.out)) : gb204 ≠ gb209)) (an ((by rw [hg]; exact Nat.ne_of_gt (blk_lt (blk_nw BK204.out)) : gb209 ≠ gb204)) (trivial))))))))))))); clear HO198 HO202 HO208 BK193 BK204 HB; obtain ⟨HO198, HO202, HO208, BK193, BK204, HB, BK209, GW209, GE209, NB193_209, NB209_193, NB204_209, NB209_204, -⟩ := n_; clear hb hbox hg; have hnb23 := NB209_193.out; have hnc23 := NB193_209.out; have hnb24 := NB209_204.out; have hnc24 := NB204_209.out; obtain ⟨hcz25_0, hcz25_1⟩ := blkz2 BK209.out; have hfz25_0 := blkf BK209.out; obtain ⟨Ao26, co26, eo26⟩ := Kd.R_slice HO208.out; subst eo26) | ((with_reducible refine gate_callee (f := 26) rfl ?_); refine goesL_ (some 29) rfl rfl Try.func26 (by kernel_rfl) rfl #[.agg #[.int .i64 t205, .slice Ao26 t206.length co26]] rfl (by (try simp only [List.map_toArray, List.map_cons, List.map_nil]); first | done | rfl | (simp only [List.length_drop, List.length_take]; rfl)) ?_; (with_reducible refine (impl_Leave.calls k t205 _ _ t206 t210 t211 t214 _ ?side1 ?side2 A10.out).mono ?_); (case side1 => refine (Kd.R_reads' (e := 82) (base := w.heap.size) (ok := fun k_ => ((True ∧ some k_ ≠ (.slice Ao14 t196.length co14 : Value).ownBlock) ∧ some k_ ≠ (.slice Ao19 t200.length co19 : Value).ownBlock)) (n := t206.length) (c := co26) ?_).2.2; exact (by exact (Kd.R_farN HO208.out BK209.out))); (case side2 => exact (Kd.R_reads' HO208.out).2.1); rintro e w27 ⟨v212, rfl, ho0, hb⟩; refine ⟨_, rfl, ?_⟩; have n_ := an (Kd.R_elder' (by exact (Kd.R_farN HO198.out BK209.out)) (Kd.R_base ho0) hb) (an (Kd.R_elder' (by exact (Kd.R_farN HO202.out BK209.out)) (Kd.R_base ho0) hb) (an (Kd.R_elder' (by exact (Kd.R_farN HO208.out BK209.out)) (Kd.R_base ho0) hb) (an (Kd.R_lower (Kd.R_new' (Kd.R_new' (Kd.R_new' ho0 (Kd.R_lt (by exact (Kd.R_farN HO198.out BK209.out)))) (Kd.R_lt (by exact (Kd.R_farN HO202.out BK209.out)))) (Kd.R_lt (by exact (Kd.R_farN HO208.out BK209.out)))) (below_size (by exact bel0))) (an (blk_below (blk_kb BK193.out NB193_209.out) hb) (an (blk_below (blk_kb BK204.out NB204_209.out) hb) (an (blk_below (g := gb209) (o := .cells #[.int .i64 t205, .slice Ao26 t206.length co26] 41 (0, 0)) (by (with_reducible repeat (first | refine blk_drewN ?_ _ | refine blk_drew ?_ | refine blk_alloc ?_ _)); exact blk_fill2 BK209.out) hb) (an (below_step (by exact bel0) hb) (trivial)))))))); clear HO198 HO202 HO208 BK193 BK204 BK209 HB; obtain ⟨HO198, HO202, HO208, HO213, BK193, BK204, BK209, HB, -⟩ := n_; (try clear hb); (try clear hb2); (try clear hk); (try clear hi); (try clear ho0)) | ((with_reducible refine gate_dst (N := 7) rfl ?_); refine box_event ?hg (N := 7) ?hd (cs := #[.int .i64 0, .slice none 0 0]) (t := 41) ?hr ?_; (case hd => rfl); (case hg => rfl); (case hr => first | (go_simp; done) | (go_simp; rfl)); intro gb215 hg w28 hbox hb; have n_ := an (Kd.R_below (by exact Kd.R_nw HO198.out) hb) (an (Kd.R_below (by exact Kd.R_nw HO202.out) hb) (an (Kd.R_below (by exact Kd.R_nw HO208.out) hb) (an (Kd.R_below (by exact Kd.R_nw HO213.out) hb) (an (blk_below (blk_nw BK193.out) hb) (an (blk_below (blk_nw BK204.out) hb) (an (blk_below (blk_nw BK209.out) hb) (an (below_step (by exact bel0) hb) (an (hbox) (an ((by rw [hg]; exact (below_size (by exact bel0)) : w.heap.size ≤ gb215)) (an ((by rw [hg]; exact (below_size (by exact bel0)) : w.heap.size ≤ gb215)) (an ((by rw [hg]; exact Nat.ne_of_lt (blk_lt (blk_nw BK193.out)) : gb193 ≠ gb215)) (an ((by rw [hg]; exact Nat.ne_of_gt (blk_lt (blk_nw BK193.out)) : gb215 ≠ gb193)) (an ((by rw [hg]; exact Nat.ne_of_lt (blk_lt (blk_nw BK204.out)) : gb204 ≠ gb215)) (an ((by rw [hg]; exact Nat.ne_of_gt (blk_lt (blk_nw BK204.out)) : gb215 ≠ gb204)) (an ((by rw [hg]; exact Nat.ne_of_lt (blk_lt (blk_nw BK209.out)) : gb209 ≠ gb215)) (an ((by rw [hg]; exact Nat.ne_of_gt (blk_lt (blk_nw BK209.out)) : gb215 ≠ gb209)) (trivial))))))))))))))))); clear HO198 HO202 HO208 HO213 BK193 BK204 BK209 HB; obtain ⟨HO198, HO202, HO208, HO213, BK193, BK204, BK209, HB, BK215, GW215, GE215, NB193_215, NB215_193, NB204_215, NB215_204, NB209_215, NB215_209, -⟩ := n_; clear hb hbox hg; have hnb29 := NB215_193.out; have hnc29 := NB193_215.out; have hnb30 := NB215_204.out; have hnc30 := NB204_215.out; have hnb31 := NB215_209.out; have hnc31 := NB209_215.out; obtain ⟨hcz32_0, hcz32_1⟩ := blkz2 BK215.out; have hfz32_0 := blkf BK215.out; obtain ⟨Ao33, co33, eo33⟩ := Kd.R_slice HO213.out; subst eo33))
  (try simp only [Act.put, List.setIfInBounds_toArray, List.set_cons_zero, List.set_cons_succ])
  go_cut [40] (fun v40 wc => ∃ (kq : Nat) (x40_10 : Bool), v40 = .bool x40_10 ∧ Aside0 (laws_FnExactLeave.j0 kq t203 t214 x40_10 a0_0 l0_1 t199 t200 t205 t206 t210 t211 = some r) ∧ Aside0 (kq ≤ k) ∧ Aside0 (Kd.R k82 82 wc w.heap.size (fun k_ => some k_ ≠ ((.slice Ao26 t206.length co26) : Value).ownBlock ∧ some k_ ≠ ((.slice Ao33 t211.length co33) : Value).ownBlock) (.slice Ao19 t200.length co19) t200) ∧ Aside0 (Kd.R k82 82 wc w.heap.size (fun k_ => some k_ ≠ ((.slice Ao19 t200.length co19) : Value).ownBlock ∧ some k_ ≠ ((.slice Ao33 t211.length co33) : Value).ownBlock) (.slice Ao26 t206.length co26) t206) ∧ Aside0 (Kd.R k82 82 wc w.heap.size (fun k_ => some k_ ≠ ((.slice Ao19 t200.length co19) : Value).ownBlock ∧ some k_ ≠ ((.slice Ao26 t206.length co26) : Value).ownBlock) (.slice Ao33 t211.length co33) t211) ∧ Aside0 (wc.heap[gb193]? = some (.cells #[.int .i64 a0_0, (.slice A0_1 l0_1.length c0_1)] 37 (0, 0))) ∧ Aside0 (wc.heap[gb204]? = some (.cells #[.int .i64 t199, (.slice Ao19 t200.length co19)] 41 (0, 0))) ∧ Aside0 (wc.heap[gb209]? = some (.cells #[.int .i64 t205, (.slice Ao26 t206.length co26)] 41 (0, 0))) ∧ Aside0 (wc.heap[gb215]? = some (.cells #[.int .i64 t210, (.slice Ao33 t211.length co33)] 41 (0, 0))) ∧ Aside0 (Below w.heap.size w wc))
  case first =>
   have H := HC11.out; clear HC11; replace H := Option.bind_eq_some_iff.mp H; obtain ⟨t216, A340, H⟩ := H; have A34 := Aside0.mk A340; clear A340; have hnb35 := NB215_193.out; have hnc35 := NB193_215.out; have hnb36 := NB215_204.out; have hnc36 := NB204_215.out; have hnb37 := NB215_209.out; have hnc37 := NB209_215.out; obtain ⟨hcz38_0, hcz38_1⟩ := blkz2 BK215.out; have hfz38_0 := blkf BK215.out; have hnb39 := NB204_193.out; have hnc39 := NB193_204.out; have hnb40 := NB204_209.out; have hnc40 := NB209_204.out; obtain ⟨hcz41_0, hcz41_1⟩ := blkz2 BK204.out; have hfz41_0 := blkf BK204.out
   replace H := Aside0.mk H
   go_wp2_with (first | ((with_reducible refine gate_callee (f := 27) rfl ?_); refine goesL_ (some 34) rfl rfl Try.func27 (by kernel_rfl) rfl #[.agg #[.int .i64 t210, .slice Ao33 t211.length co33], .agg #[.int .i64 t199, .slice Ao19 t200.length co19]] rfl (by (try simp only [List.map_toArray, List.map_cons, List.map_nil]); first | done | rfl | (simp only [List.length_drop, List.length_take]; rfl)) ?_; (with_reducible refine (laws_eqTable.calls k t210 _ _ t211 t199 _ _ t200 t216 _ ?side1 ?side2 ?side3 ?side4 A34.out).mono ?_); (case side1 => refine (Kd.R_reads' (e := 82) (base := w.heap.size) (ok := fun k_ => (((True ∧ some k_ ≠ (.slice Ao14 t196.length co14 : Value).ownBlock) ∧ some k_ ≠ (.slice Ao19 t200.length co19 : Value).ownBlock) ∧ some k_ ≠ (.slice Ao26 t206.length co26 : Value).ownBlock)) (n := t211.length) (c := co33) ?_).2.2; exact (by exact (Kd.R_farN HO213.out BK215.out))); (case side2 => exact (Kd.R_reads' HO213.out).2.1); (case side3 => refine (Kd.R_reads' (e := 82) (base := w.heap.size) (ok := fun k_ => (((True ∧ some k_ ≠ (.slice Ao14 t196.length co14 : Value).ownBlock) ∧ some k_ ≠ (.slice Ao26 t206.length co26 : Value).ownBlock) ∧ some k_ ≠ (.slice Ao33 t211.length co33 : Value).ownBlock)) (n := t200.length) (c := co19) ?_).2.2; exact (by exact (Kd.R_farN HO202.out BK215.out))); (case side4 => exact (Kd.R_reads' HO202.out).2.1); rintro e w42 ⟨rfl, hb⟩; refine ⟨_, rfl, ?_⟩; have n_ := an (Kd.R_below (by exact (Kd.R_farN HO198.out BK215.out)) hb) (an (Kd.R_below (by exact (Kd.R_farN HO202.out BK215.out)) hb) (an (Kd.R_below (by exact (Kd.R_farN HO208.out BK215.out)) hb) (an (Kd.R_below (by exact (Kd.R_farN HO213.out BK215.out)) hb) (an (blk_below (blk_kb BK193.out NB193_215.out) hb) (an (blk_below (blk_kb BK204.out NB204_215.out) hb) (an (blk_below (blk_kb BK209.out NB209_215.out) hb) (an (blk_below (g := gb215) (o := .cells #[.int .i64 t210, .slice Ao33 t211.length co33] 41 (0, 0)) (by (with_reducible repeat (first | refine blk_drewN ?_ _ | refine blk_drew ?_ | refine blk_alloc ?_ _)); exact blk_fill2 BK215.out) hb) (an (below_step (by exact bel0) hb) (trivial))))))))); clear HO198 HO202 HO208 HO213 BK193 BK204 BK209 BK215 HB; obtain ⟨HO198, HO202, HO208, HO213, BK193, BK204, BK209, BK215, HB, -⟩ := n_; (try clear hb); (try clear hb2); (try clear hk); (try clear hi); refine Stop.out ?_))
   refine Stop.mk ?_
   replace H := H.out
   by_cases c43 : t216 = true
   ·subst c43; rw [if_pos rfl] at H
    have H' := Aside0.mk H
    clear H
    go_wp2
    go_meet
    case rel => exact ⟨_, ((t214 != t203)), (by first | rfl | (simp; done) | (simp [*]; done)), H', ⟨by first | omega | exact Nat.le_refl _⟩, ⟨by exact Kd.R_nw (Kd.R_mono HO202.out (fun _ hk => ⟨hk.1.2, hk.2⟩))⟩, ⟨by exact Kd.R_nw (Kd.R_mono HO208.out (fun _ hk => ⟨hk.1.2, hk.2⟩))⟩, ⟨by exact Kd.R_nw (Kd.R_mono HO213.out (fun _ hk => ⟨hk.1.2, hk.2⟩))⟩, ⟨by exact blk_nw BK193.out⟩, ⟨by exact blk_nw BK204.out⟩, ⟨by exact blk_nw BK209.out⟩, ⟨by exact blk_nw BK215.out⟩, ⟨by exact bel0⟩⟩
   ·replace c43 := Bool.eq_false_iff.mpr c43
    subst c43
    rw [if_neg (show ¬ (false = true) by decide)] at H
    have H' := Aside0.mk H
    clear H
    go_wp2
    go_meet
    case rel => exact ⟨_, (true), (by first | rfl | (simp; done) | (simp [*]; done)), H', ⟨by first | omega | exact Nat.le_refl _⟩, ⟨by exact Kd.R_nw (Kd.R_mono HO202.out (fun _ hk => ⟨hk.1.2, hk.2⟩))⟩, ⟨by exact Kd.R_nw (Kd.R_mono HO208.out (fun _ hk => ⟨hk.1.2, hk.2⟩))⟩, ⟨by exact Kd.R_nw (Kd.R_mono HO213.out (fun _ hk => ⟨hk.1.2, hk.2⟩))⟩, ⟨by exact blk_nw BK193.out⟩, ⟨by exact blk_nw BK204.out⟩, ⟨by exact blk_nw BK209.out⟩, ⟨by exact blk_nw BK215.out⟩, ⟨by exact bel0⟩⟩
  case rest =>
   clear HC11; try clear c1; try clear c2; try clear p2; try clear c3; try clear c4; try clear c6; try clear c6b0; try clear c17; try clear c23; try clear c24; try clear c25; try clear c26; try clear c27; try clear c29; try clear c30; try clear c31; try clear c35; try clear c36; try clear c37; try clear c39; try clear c40; try clear c43; try clear hcz12_0; try clear hcz12_1; try clear hcz18_0; try clear hcz18_1; try clear hcz20_0; try clear hcz20_1; try clear hcz25_0; try clear hcz25_1; try clear hcz32_0; try clear hcz32_1; try clear hcz38_0; try clear hcz38_1; try clear hcz41_0; try clear hcz41_1; try clear hcz4_0; try clear hcz4_1; try clear hfz12_0; try clear hfz12_1; try clear hfz18_0; try clear hfz18_1; try clear hfz20_0; try clear hfz20_1; try clear hfz25_0; try clear hfz25_1; try clear hfz32_0; try clear hfz32_1; try clear hfz38_0; try clear hfz38_1; try clear hfz41_0; try clear hfz41_1; try clear hfz4_0; try clear hfz4_1
   obtain ⟨kq, x40_10, rfl, HA, HJ10, HO_205001, HO_210001, HO_216001, BK193, BK204, BK209, BK215, HB⟩ := hcut
   cases kq with
   | zero => exact absurd HA.out (by simp [laws_FnExactLeave.j0])
   | succ kj10 =>
    have H := HA.out; clear HA
    simp only [laws_FnExactLeave.j0] at H
    by_cases c44 : x40_10 = true
    ·subst c44; rw [if_pos rfl] at H
     obtain rfl := Option.some.inj H
     go_wp2
     go_ret
     exact ⟨by first | rfl | (simp [errW_none, errW_some] <;> rfl) | (simp [*, errW_none, errW_some] <;> rfl), by exact bel0⟩
    ·replace c44 := Bool.eq_false_iff.mpr c44
     subst c44
     rw [if_neg (show ¬ (false = true) by decide)] at H
     replace H := Option.bind_eq_some_iff.mp H
     obtain ⟨⟨t217, t218⟩, A450, H⟩ := H
     replace H : ((laws_eqTable.f kj10 t205 t206 t217 t218).bind fun t221 => (if t221 = true then ((laws_markTable.f kj10 t205 t206 1).bind fun bt222 => (if bt222.1 < 0 then (laws_FnExactLeave.j1 kj10 t203 true a0_0 l0_1 t199 t200 t210 t211) else ((laws_eqTable.f kj10 t210 t211 t199 t200).bind fun t224 => (if t224 = true then (laws_FnExactLeave.j1 kj10 t203 (t214 != t203) a0_0 l0_1 t199 t200 t210 t211) else (laws_FnExactLeave.j1 kj10 t203 true a0_0 l0_1 t199 t200 t210 t211))))) else (some false))) = some r := H
     have A45 := Aside0.mk A450; clear A450; replace H := Option.bind_eq_some_iff.mp H; obtain ⟨t221, A460, H⟩ := H; have A46 := Aside0.mk A460; clear A460
     replace H := Aside0.mk H
     try go_wp2
     have n_ := an (Kd.R_drew HO_205001.out) (an (Kd.R_drew HO_210001.out) (an (Kd.R_drew HO_216001.out) (an (blk_drew BK193.out) (an (blk_drew BK204.out) (an (blk_drew BK209.out) (an (blk_drew BK215.out) (an (below_drew1 HB.out) (trivial))))))))
     clear HO_205001 HO_210001 HO_216001 BK193 BK204 BK209 BK215 HB
     obtain ⟨HO_205001, HO_210001, HO_216001, BK193, BK204, BK209, BK215, HB, -⟩ := n_
     refine start_ (n := 5) (S := fun w' => w'.cell? ⟨gb209, 0, none⟩ = some (.int .i64 t205) ∧ w'.cell? ⟨gb209, 1, none⟩ = some (.slice Ao26 t206.length co26) ∧ w'.cell? ⟨gb193, 0, none⟩ = some (.int .i64 a0_0) ∧ w'.cell? ⟨gb193, 1, none⟩ = some (.slice A0_1 l0_1.length c0_1)) (ds := []) #[false, false, false, false, false] (by kernel_rfl) rfl rfl ⟨(blk_cell BK209.out 0).trans rfl, (blk_cell BK209.out 1).trans rfl, (blk_cell BK193.out 0).trans rfl, (blk_cell BK193.out 1).trans rfl⟩ (fun hHeld => ?_)
     generalize wc.drew = w47 at HO_205001 HO_210001 HO_216001 BK193 BK204 BK209 BK215 HB hHeld ⊢
     refine take_ (i := 0) (N := some 41) (v := ?_) (a' := ?_) #[true, false, false, false, false] rfl rfl (by kernel_rfl) (fun _ _ _ h => h) (Or.inl ⟨by rfl, ?_⟩) hHeld ?_ ?_
     rotate_left
     ·rintro w' ⟨s0, s1, s2, s3⟩
      go_simp
      with_reducible rfl
     rotate_left
     ·simp only [Act.put, List.setIfInBounds_toArray, List.set_cons_zero, List.set_cons_succ, i64_w, i32_w]
      rfl
     refine take_ (i := 1) (N := some 42) (v := ?_) (a' := ?_) #[true, true, false, false, false] rfl rfl (by kernel_rfl) (fun _ _ _ h => h) (Or.inl ⟨by rfl, ?_⟩) hHeld ?_ ?_
     rotate_left
     ·rintro w' ⟨s0, s1, s2, s3⟩
      go_simp
      with_reducible rfl
     rotate_left
     ·simp only [Act.put, List.setIfInBounds_toArray, List.set_cons_zero, List.set_cons_succ, i64_w, i32_w]
      rfl
     refine one_ (i := 2) (N := some 43) #[true, true, true, false, false] rfl rfl (by kernel_rfl) (by decide) (fun K hK => ?_)
     refine goes_ Try.func25 (by kernel_rfl) rfl #[.agg #[.int .i64 a0_0, .slice A0_1 l0_1.length c0_1]] (by rfl) rfl rfl (by (try simp only [List.map_toArray, List.map_cons, List.map_nil]); first | done | rfl | (simp only [List.length_drop, List.length_take]; rfl)) ?_
     with_reducible refine (laws_toTable.calls kj10 a0_0 _ _ l0_1 t217 t218 _ ?side1 ?side2 A45.out).mono ?_
     (case side1 => repeat (first | exact (Kd.C_below HR0_1.out HB.out) | (with_reducible refine Kd.C_alloc ?_ _) | (with_reducible refine Kd.C_drewN ?_ _) | (with_reducible refine Kd.C_drew ?_)))
     (case side2 => exact HC0_1.out)
     rintro e w48 ⟨v219, rfl, ho0, hb⟩
     refine ⟨_, rfl, ?_⟩
     have n_ := an (Kd.R_elder' (by exact Kd.R_nw HO_205001.out) (Kd.R_base ho0) hb) (an (Kd.R_elder' (by exact Kd.R_nw HO_210001.out) (Kd.R_base ho0) hb) (an (Kd.R_elder' (by exact Kd.R_nw HO_216001.out) (Kd.R_base ho0) hb) (an (Kd.R_lower (Kd.R_new' (Kd.R_new' (Kd.R_new' ho0 (Kd.R_lt (by exact Kd.R_nw HO_205001.out))) (Kd.R_lt (by exact Kd.R_nw HO_210001.out))) (Kd.R_lt (by exact Kd.R_nw HO_216001.out))) (below_size (by exact bel0))) (an (blk_below (blk_nw BK193.out) hb) (an (blk_below (blk_nw BK204.out) hb) (an (blk_below (blk_nw BK209.out) hb) (an (blk_below (blk_nw BK215.out) hb) (an (below_step (by exact bel0) hb) (trivial)))))))))
     clear HO_205001 HO_210001 HO_216001 BK193 BK204 BK209 BK215 HB
     obtain ⟨HO_205001, HO_210001, HO_216001, HO220, BK193, BK204, BK209, BK215, HB, -⟩ := n_
     (try clear hb); (try clear hb2); (try clear hk); (try clear hi); (try clear ho0)
     obtain ⟨Ao49, co49, eo49⟩ := Kd.R_slice HO220.out
     (first | subst eo49 | (injection eo49 with f1_ f2_ f3_; have f4_ := f1_.symm; have f5_ := f3_.symm; clear f1_ f2_ f3_; subst f4_; subst f5_))
     refine hK.out _ _ ⟨(blk_cell BK209.out 0).trans rfl, (blk_cell BK209.out 1).trans rfl, (blk_cell BK193.out 0).trans rfl, (blk_cell BK193.out 1).trans rfl⟩ (fun hHeld => ?_)
     clear hK K
     refine norm_ (a' := ?_) ?_ ?_
     rotate_left
     ·show Act.put _ (some 43) _ = _
      simp only [Act.put, List.setIfInBounds_toArray, List.set_cons_zero, List.set_cons_succ, i64_w, i32_w]
      rfl
     refine one_ (i := 3) (N := some 44) #[true, true, true, true, false] rfl rfl (by kernel_rfl) (by decide) (fun K hK => ?_)
     refine goes_ Try.func27 (by kernel_rfl) rfl #[.agg #[.int .i64 t205, .slice Ao26 t206.length co26], .agg #[.int .i64 t217, .slice Ao49 t218.length co49]] (by rfl) rfl rfl (by (try simp only [List.map_toArray, List.map_cons, List.map_nil]); first | done | rfl | (simp only [List.length_drop, List.length_take]; rfl)) ?_
     with_reducible refine (laws_eqTable.calls kj10 t205 _ _ t206 t217 _ _ t218 t221 _ ?side1 ?side2 ?side3 ?side4 A46.out).mono ?_
     (case side1 => repeat (first | exact (Kd.R_reads' HO_210001.out).2.2 | (with_reducible refine Kd.C_alloc ?_ _) | (with_reducible refine Kd.C_drewN ?_ _) | (with_reducible refine Kd.C_drew ?_)))
     (case side2 => exact (Kd.R_reads' HO_210001.out).2.1)
     (case side3 => repeat (first | exact (Kd.R_reads' HO220.out).2.2 | (with_reducible refine Kd.C_alloc ?_ _) | (with_reducible refine Kd.C_drewN ?_ _) | (with_reducible refine Kd.C_drew ?_)))
     (case side4 => exact (Kd.R_reads' HO220.out).2.1)
     rintro e w50 ⟨rfl, hb⟩
     refine ⟨_, rfl, ?_⟩
     have n_ := an (Kd.R_below (by exact Kd.R_nw HO_205001.out) hb) (an (Kd.R_below (by exact Kd.R_nw HO_210001.out) hb) (an (Kd.R_below (by exact Kd.R_nw HO_216001.out) hb) (an (Kd.R_below (by exact Kd.R_nw HO220.out) hb) (an (blk_below (blk_nw BK193.out) hb) (an (blk_below (blk_nw BK204.out) hb) (an (blk_below (blk_nw BK209.out) hb) (an (blk_below (blk_nw BK215.out) hb) (an (below_step (by exact bel0) hb) (trivial)))))))))
     clear HO_205001 HO_210001 HO_216001 HO220 BK193 BK204 BK209 BK215 HB
     obtain ⟨HO_205001, HO_210001, HO_216001, HO220, BK193, BK204, BK209, BK215, HB, -⟩ := n_
     (try clear hb); (try clear hb2); (try clear hk); (try clear hi)
     refine hK.out _ _ ⟨(blk_cell BK209.out 0).trans rfl, (blk_cell BK209.out 1).trans rfl, (blk_cell BK193.out 0).trans rfl, (blk_cell BK193.out 1).trans rfl⟩ (fun hHeld => ?_)
     clear hK K
     refine norm_ (a' := ?_) ?_ ?_
     rotate_left
     ·show Act.put _ (some 44) _ = _
      simp only [Act.put, List.setIfInBounds_toArray, List.set_cons_zero, List.set_cons_succ, i64_w, i32_w]
      rfl
     refine pure_ (i := 4) (N := some 45) (v := ?_) (a' := ?_) #[true, true, true, true, true] rfl rfl (by kernel_rfl) (fun _ _ _ h => h) (Or.inl ⟨by rfl, ?_⟩) ?_ ?_
     rotate_left
     ·intro w'
      go_simp
      with_reducible rfl
     rotate_left
     ·simp only [Act.put, List.setIfInBounds_toArray, List.set_cons_zero, List.set_cons_succ, i64_w, i32_w]
      rfl
     refine done_ (by kernel_rfl) ?_
     replace H := H.out
     by_cases c51 : t221 = true
     ·subst c51; rw [if_pos rfl] at H; replace H := Option.bind_eq_some_iff.mp H
      obtain ⟨⟨t222, t223⟩, A520, H⟩ := H
      replace H : (if t222 < 0 then (laws_FnExactLeave.j1 kj10 t203 true a0_0 l0_1 t199 t200 t210 t211) else ((laws_eqTable.f kj10 t210 t211 t199 t200).bind fun t224 => (if t224 = true then (laws_FnExactLeave.j1 kj10 t203 (t214 != t203) a0_0 l0_1 t199 t200 t210 t211) else (laws_FnExactLeave.j1 kj10 t203 true a0_0 l0_1 t199 t200 t210 t211)))) = some r := H
      have A52 := Aside0.mk A520; clear A520; have HC53 := Aside0.mk H; clear H; have hnb54 := NB209_193.out; have hnc54 := NB193_209.out; have hnb55 := NB209_204.out; have hnc55 := NB204_209.out; have hnb56 := NB209_215.out; have hnc56 := NB215_209.out; obtain ⟨hcz57_0, hcz57_1⟩ := blkz2 BK209.out; have hfz57_0 := blkf BK209.out
      go_upto_region 14 with (first | ((with_reducible refine gate_callee (f := 28) rfl ?_); refine goesL_ (some 48) rfl rfl Try.func28 (by kernel_rfl) rfl #[.agg #[.int .i64 t205, .slice Ao26 t206.length co26], .int .i64 1] rfl (by (try simp only [List.map_toArray, List.map_cons, List.map_nil]); first | done | rfl | (simp only [List.length_drop, List.length_take]; rfl)) ?_; (with_reducible refine (laws_markTable.calls kj10 t205 (fun k_ => some k_ = (.slice Ao26 t206.length co26 : Value).ownBlock) (.slice Ao26 t206.length co26) t206 1 t222 t223 w _ ?side1 ?side2 A52.out).mono ?_); (case side1 => exact bel0); (case side2 => exact Kd.R_tight rfl HO_210001.out); rintro e w58 ⟨rfl, hy0, hb, hkp⟩; refine ⟨_, rfl, ?_⟩; have n_ := an (Kd.R_mono (ok' := fun k_ => some k_ ≠ (.slice Ao26 t206.length co26 : Value).ownBlock ∧ some k_ ≠ (.slice Ao33 t211.length co33 : Value).ownBlock ∧ some k_ ≠ (.slice Ao49 t218.length co49 : Value).ownBlock) (Kd.R_keptB (HO_205001.out) hkp (fun k_ hk_ hs_ => (hk_.1.1) hs_)) (fun k_ hk_ => ⟨hk_.1.1.1, hk_.1.1.2, hk_.1.2⟩)) (an (Kd.R_reok rfl hy0 (fun k_ e_ => HO_210001.out.1 k_ e_)) (an (Kd.R_mono (ok' := fun k_ => some k_ ≠ (.slice Ao19 t200.length co19 : Value).ownBlock ∧ some k_ ≠ (.slice Ao26 t206.length co26 : Value).ownBlock ∧ some k_ ≠ (.slice Ao49 t218.length co49 : Value).ownBlock) (Kd.R_keptB (HO_216001.out) hkp (fun k_ hk_ hs_ => (hk_.1.2) hs_)) (fun k_ hk_ => ⟨hk_.1.1.1, hk_.1.1.2, hk_.1.2⟩)) (an (blk_kept (by exact blk_nw BK193.out) hkp (fun hs_ => (fun e_ => (Kd.R_ne HO_210001.out BK193.out (by decide)) e_) hs_)) (an (blk_kept (by exact blk_nw BK204.out) hkp (fun hs_ => (fun e_ => (Kd.R_ne HO_210001.out BK204.out (by decide)) e_) hs_)) (an (blk_kept (by exact blk_nw BK209.out) hkp (fun hs_ => (fun e_ => (Kd.R_ne HO_210001.out BK209.out (by decide)) e_) hs_)) (an (blk_kept (by exact blk_nw BK215.out) hkp (fun hs_ => (fun e_ => (Kd.R_ne HO_210001.out BK215.out (by decide)) e_) hs_)) (an (Kd.R_mono (ok' := fun k_ => some k_ ≠ (.slice Ao19 t200.length co19 : Value).ownBlock ∧ some k_ ≠ (.slice Ao26 t206.length co26 : Value).ownBlock ∧ some k_ ≠ (.slice Ao33 t211.length co33 : Value).ownBlock) (Kd.R_keptB (HO220.out) hkp (fun k_ hk_ hs_ => (hk_.1.2) hs_)) (fun k_ hk_ => ⟨hk_.1.1.1.2, hk_.1.1.2, hk_.1.2⟩)) (an (hb) (trivial))))))))); clear HO_205001 HO_210001 HO_216001 BK193 BK204 BK209 BK215 HO220 HB; obtain ⟨HO_205001, HO_210001, HO_216001, BK193, BK204, BK209, BK215, HO220, HB, -⟩ := n_; (try clear hb); (try clear hkp); (try clear hy0)))
      (try simp only [Act.put, List.setIfInBounds_toArray, List.set_cons_zero, List.set_cons_succ])
      go_cut [61] (fun v61 wc => ∃ (kq : Nat) (x61_52 : Bool), v61 = .bool x61_52 ∧ Aside0 (laws_FnExactLeave.j1 kq t203 x61_52 a0_0 l0_1 t199 t200 t210 t211 = some r) ∧ Aside0 (kq ≤ kj10) ∧ Aside0 (Kd.R k82 82 wc w.heap.size (fun k_ => some k_ ≠ ((.slice Ao26 t206.length co26) : Value).ownBlock ∧ some k_ ≠ ((.slice Ao33 t211.length co33) : Value).ownBlock) (.slice Ao19 t200.length co19) t200) ∧ Aside0 (Kd.R k82 82 wc w.heap.size (fun k_ => some k_ ≠ ((.slice Ao19 t200.length co19) : Value).ownBlock ∧ some k_ ≠ ((.slice Ao33 t211.length co33) : Value).ownBlock) (.slice Ao26 t206.length co26) t223) ∧ Aside0 (Kd.R k82 82 wc w.heap.size (fun k_ => some k_ ≠ ((.slice Ao19 t200.length co19) : Value).ownBlock ∧ some k_ ≠ ((.slice Ao26 t206.length co26) : Value).ownBlock) (.slice Ao33 t211.length co33) t211) ∧ Aside0 (wc.heap[gb193]? = some (.cells #[.int .i64 a0_0, (.slice A0_1 l0_1.length c0_1)] 37 (0, 0))) ∧ Aside0 (wc.heap[gb204]? = some (.cells #[.int .i64 t199, (.slice Ao19 t200.length co19)] 41 (0, 0))) ∧ Aside0 (wc.heap[gb209]? = some (.cells #[.int .i64 t205, (.slice Ao26 t206.length co26)] 41 (0, 0))) ∧ Aside0 (wc.heap[gb215]? = some (.cells #[.int .i64 t210, (.slice Ao33 t211.length co33)] 41 (0, 0))) ∧ Aside0 (Below w.heap.size w wc))
      case first =>
       have H := HC53.out; clear HC53
       by_cases c59 : t222 < 0
       ·rw [if_pos c59] at H; have c59b0 : decide (t222 < 0) = true := decide_eq_true c59; clear c59; (try simp only [c59b0])
        (first | rw [c59b0] | (simp only [i64_w, i32_w]; rw [c59b0]) | skip)
        have H' := Aside0.mk H
        clear H
        go_wp2
        go_meet
        case rel => exact ⟨_, (true), (by first | rfl | (simp; done) | (simp [*]; done)), H', ⟨by have := HJ10.out; first | omega | exact Nat.le_refl _⟩, ⟨by exact Kd.R_nw (Kd.R_mono HO_205001.out (fun _ hk => ⟨hk.1, hk.2.1⟩))⟩, ⟨by exact Kd.R_nw (Kd.R_mono HO_210001.out (fun _ hk => ⟨hk.1.1, hk.1.2⟩))⟩, ⟨by exact Kd.R_nw (Kd.R_mono HO_216001.out (fun _ hk => ⟨hk.1, hk.2.1⟩))⟩, ⟨by exact blk_nw BK193.out⟩, ⟨by exact blk_nw BK204.out⟩, ⟨by exact blk_nw BK209.out⟩, ⟨by exact blk_nw BK215.out⟩, ⟨by exact bel0⟩⟩
       ·rw [if_neg c59] at H; have c59b0 : decide (t222 < 0) = false := decide_eq_false c59; clear c59; (try simp only [c59b0])
        (first | rw [c59b0] | (simp only [i64_w, i32_w]; rw [c59b0]) | skip)
        replace H := Option.bind_eq_some_iff.mp H; obtain ⟨t224, A600, H⟩ := H; have A60 := Aside0.mk A600; clear A600; have hnb61 := NB215_193.out; have hnc61 := NB193_215.out; have hnb62 := NB215_204.out; have hnc62 := NB204_215.out; have hnb63 := NB215_209.out; have hnc63 := NB209_215.out; obtain ⟨hcz64_0, hcz64_1⟩ := blkz2 BK215.out; have hfz64_0 := blkf BK215.out; have hnb65 := NB204_193.out; have hnc65 := NB193_204.out; have hnb66 := NB204_209.out; have hnc66 := NB209_204.out; obtain ⟨hcz67_0, hcz67_1⟩ := blkz2 BK204.out; have hfz67_0 := blkf BK204.out
        replace H := Aside0.mk H
        go_wp2_with (first | (go_at_call 27; (with_reducible refine (laws_eqTable.calls kj10 t210 _ _ t211 t199 _ _ t200 t224 _ ?side1 ?side2 ?side3 ?side4 A60.out).mono ?_); (case side1 => repeat (first | exact (Kd.R_reads' HO_216001.out).2.2 | (with_reducible refine Kd.C_alloc ?_ _) | (with_reducible refine Kd.C_drewN ?_ _) | (with_reducible refine Kd.C_drew ?_))); (case side2 => exact (Kd.R_reads' HO_216001.out).2.1); (case side3 => repeat (first | exact (Kd.R_reads' HO_205001.out).2.2 | (with_reducible refine Kd.C_alloc ?_ _) | (with_reducible refine Kd.C_drewN ?_ _) | (with_reducible refine Kd.C_drew ?_))); (case side4 => exact (Kd.R_reads' HO_205001.out).2.1); rintro e w68 ⟨rfl, hb⟩; have n_ := an (Kd.R_below (by exact Kd.R_nw HO_205001.out) hb) (an (Kd.R_below (by exact Kd.R_nw HO_210001.out) hb) (an (Kd.R_below (by exact Kd.R_nw HO_216001.out) hb) (an (Kd.R_below (by exact Kd.R_nw HO220.out) hb) (an (blk_below (blk_nw BK193.out) hb) (an (blk_below (blk_nw BK204.out) hb) (an (blk_below (blk_nw BK209.out) hb) (an (blk_below (blk_nw BK215.out) hb) (an (below_step (by exact bel0) hb) (trivial))))))))); clear HO_205001 HO_210001 HO_216001 HO220 BK193 BK204 BK209 BK215 HB; obtain ⟨HO_205001, HO_210001, HO_216001, HO220, BK193, BK204, BK209, BK215, HB, -⟩ := n_; (try clear hb); (try clear hb2); (try clear hk); (try clear hi); refine Stop.out ?_))
        refine Stop.mk ?_
        replace H := H.out
        by_cases c69 : t224 = true
        ·subst c69; rw [if_pos rfl] at H
         have H' := Aside0.mk H
         clear H
         go_wp2
         go_meet
         case rel => exact ⟨_, ((t214 != t203)), (by first | rfl | (simp; done) | (simp [*]; done)), H', ⟨by have := HJ10.out; first | omega | exact Nat.le_refl _⟩, ⟨by exact Kd.R_nw (Kd.R_mono HO_205001.out (fun _ hk => ⟨hk.1, hk.2.1⟩))⟩, ⟨by exact Kd.R_nw (Kd.R_mono HO_210001.out (fun _ hk => ⟨hk.1.1, hk.1.2⟩))⟩, ⟨by exact Kd.R_nw (Kd.R_mono HO_216001.out (fun _ hk => ⟨hk.1, hk.2.1⟩))⟩, ⟨by exact blk_nw BK193.out⟩, ⟨by exact blk_nw BK204.out⟩, ⟨by exact blk_nw BK209.out⟩, ⟨by exact blk_nw BK215.out⟩, ⟨by exact bel0⟩⟩
        ·replace c69 := Bool.eq_false_iff.mpr c69
         subst c69
         rw [if_neg (show ¬ (false = true) by decide)] at H
         have H' := Aside0.mk H
         clear H
         go_wp2
         go_meet
         case rel => exact ⟨_, (true), (by first | rfl | (simp; done) | (simp [*]; done)), H', ⟨by have := HJ10.out; first | omega | exact Nat.le_refl _⟩, ⟨by exact Kd.R_nw (Kd.R_mono HO_205001.out (fun _ hk => ⟨hk.1, hk.2.1⟩))⟩, ⟨by exact Kd.R_nw (Kd.R_mono HO_210001.out (fun _ hk => ⟨hk.1.1, hk.1.2⟩))⟩, ⟨by exact Kd.R_nw (Kd.R_mono HO_216001.out (fun _ hk => ⟨hk.1, hk.2.1⟩))⟩, ⟨by exact blk_nw BK193.out⟩, ⟨by exact blk_nw BK204.out⟩, ⟨by exact blk_nw BK209.out⟩, ⟨by exact blk_nw BK215.out⟩, ⟨by exact bel0⟩⟩
      case rest =>
       clear HC53; try clear c1; try clear c2; try clear p2; try clear c3; try clear c4; try clear c5; try clear c6; try clear c6b0; try clear c17; try clear c23; try clear c24; try clear c25; try clear c26; try clear c27; try clear c28; try clear c29; try clear c30; try clear c31; try clear c35; try clear c36; try clear c37; try clear c39; try clear c40; try clear c43; try clear c44; try clear c51; try clear c54; try clear c55; try clear c56; try clear c59; try clear c59b0; try clear c61; try clear c62; try clear c63; try clear c65; try clear c66; try clear c69; try clear hcz12_0; try clear hcz12_1; try clear hcz18_0; try clear hcz18_1; try clear hcz20_0; try clear hcz20_1; try clear hcz25_0; try clear hcz25_1; try clear hcz32_0; try clear hcz32_1; try clear hcz38_0; try clear hcz38_1; try clear hcz41_0; try clear hcz41_1; try clear hcz4_0; try clear hcz4_1; try clear hcz57_0; try clear hcz57_1; try clear hcz64_0; try clear hcz64_1; try clear hcz67_0; try clear hcz67_1; try clear hfz12_0; try clear hfz12_1; try clear hfz18_0; try clear hfz18_1; try clear hfz20_0; try clear hfz20_1; try clear hfz25_0; try clear hfz25_1; try clear hfz32_0; try clear hfz32_1; try clear hfz38_0; try clear hfz38_1; try clear hfz41_0; try clear hfz41_1; try clear hfz4_0; try clear hfz4_1; try clear hfz57_0; try clear hfz57_1; try clear hfz64_0; try clear hfz64_1; try clear hfz67_0; try clear hfz67_1; try clear p2
       obtain ⟨kq, x61_52, rfl, HA, HJ52, HO_205001, HO_210001, HO_216001, BK193, BK204, BK209, BK215, HB⟩ := hcut
       have hl210001_52 := (Kd.R_reads' HO_210001.out).1
       rw [hl210001_52] at HO_210001
       (try simp only [hl210001_52])
       (try simp only [hl210001_52] at BK193)
       (try simp only [hl210001_52] at BK204)
       (try simp only [hl210001_52] at BK209)
       (try simp only [hl210001_52] at BK215)
       (try simp only [hl210001_52] at HO_205001)
       (try simp only [hl210001_52] at HO_216001)
       cases kq with
       | zero => exact absurd HA.out (by simp [laws_FnExactLeave.j1])
       | succ kj52 =>
        have H := HA.out; clear HA
        simp only [laws_FnExactLeave.j1] at H
        by_cases c70 : x61_52 = true
        ·subst c70; rw [if_pos rfl] at H
         obtain rfl := Option.some.inj H
         go_wp2
         go_ret
         exact ⟨by first | rfl | (simp [errW_none, errW_some] <;> rfl) | (simp [*, errW_none, errW_some] <;> rfl), by exact bel0⟩
        ·replace c70 := Bool.eq_false_iff.mpr c70
         subst c70
         rw [if_neg (show ¬ (false = true) by decide)] at H
         replace H := Option.bind_eq_some_iff.mp H
         obtain ⟨⟨t225, t226⟩, A710, H⟩ := H
         replace H : ((laws_heldTable.f kj52 t210 t226 1).bind fun t227 => (if t227 < 0 then (some false) else (if t227 = t225 then ((laws_toTable.f kj52 a0_0 l0_1).bind fun bt228 => ((impl_Leave.f kj52 bt228.1 bt228.2).bind fun bt232 => ((laws_eqTable.f kj52 bt232.1 bt232.2.1 t199 t200).bind fun t238 => (if t238 = true then (laws_FnExactLeave.j2 kj52 t225 (bt232.2.2 != t203) t210 t226) else (laws_FnExactLeave.j2 kj52 t225 true t210 t226))))) else (some false)))) = some r := H
         have A71 := Aside0.mk A710; clear A710; replace H := Option.bind_eq_some_iff.mp H; obtain ⟨t227, A720, H⟩ := H; have A72 := Aside0.mk A720; clear A720; have hnb73 := NB215_193.out; have hnc73 := NB193_215.out; have hnb74 := NB215_204.out; have hnc74 := NB204_215.out; have hnb75 := NB215_209.out; have hnc75 := NB209_215.out; obtain ⟨hcz76_0, hcz76_1⟩ := blkz2 BK215.out; have hfz76_0 := blkf BK215.out
         replace H := Aside0.mk H
         go_wp2_with (first | ((with_reducible refine gate_callee (f := 28) rfl ?_); refine goesL_ (some 64) rfl rfl Try.func28 (by kernel_rfl) rfl #[.agg #[.int .i64 t210, .slice Ao33 t211.length co33], .int .i64 1] rfl (by (try simp only [List.map_toArray, List.map_cons, List.map_nil]); first | done | rfl | (simp only [List.length_drop, List.length_take]; rfl)) ?_; (with_reducible refine (laws_markTable.calls kj52 t210 (fun k_ => some k_ = (.slice Ao33 t211.length co33 : Value).ownBlock) (.slice Ao33 t211.length co33) t211 1 t225 t226 w _ ?side1 ?side2 A71.out).mono ?_); (case side1 => exact bel0); (case side2 => exact Kd.R_tight rfl HO_216001.out); rintro e w77 ⟨rfl, hy0, hb, hkp⟩; refine ⟨_, rfl, ?_⟩; have n_ := an (Kd.R_mono (ok' := fun k_ => some k_ ≠ (.slice Ao26 t223.length co26 : Value).ownBlock ∧ some k_ ≠ (.slice Ao33 t211.length co33 : Value).ownBlock) (Kd.R_keptB (HO_205001.out) hkp (fun k_ hk_ hs_ => (hk_.2) hs_)) (fun k_ hk_ => ⟨hk_.1.1, hk_.1.2⟩)) (an (Kd.R_mono (ok' := fun k_ => some k_ ≠ (.slice Ao19 t200.length co19 : Value).ownBlock ∧ some k_ ≠ (.slice Ao33 t211.length co33 : Value).ownBlock) (Kd.R_keptB (HO_210001.out) hkp (fun k_ hk_ hs_ => (hk_.2) hs_)) (fun k_ hk_ => ⟨hk_.1.1, hk_.1.2⟩)) (an (Kd.R_reok rfl hy0 (fun k_ e_ => HO_216001.out.1 k_ e_)) (an (blk_kept (by exact blk_nw BK193.out) hkp (fun hs_ => (fun e_ => (Kd.R_ne HO_216001.out BK193.out (by decide)) e_) hs_)) (an (blk_kept (by exact blk_nw BK204.out) hkp (fun hs_ => (fun e_ => (Kd.R_ne HO_216001.out BK204.out (by decide)) e_) hs_)) (an (blk_kept (by exact blk_nw BK209.out) hkp (fun hs_ => (fun e_ => (Kd.R_ne HO_216001.out BK209.out (by decide)) e_) hs_)) (an (blk_kept (by exact blk_nw BK215.out) hkp (fun hs_ => (fun e_ => (Kd.R_ne HO_216001.out BK215.out (by decide)) e_) hs_)) (an (hb) (trivial)))))))); clear HO_205001 HO_210001 HO_216001 BK193 BK204 BK209 BK215 HB; obtain ⟨HO_205001, HO_210001, HO_216001, BK193, BK204, BK209, BK215, HB, -⟩ := n_; (try clear hb); (try clear hkp); (try clear hy0); obtain ⟨hcz78_0, hcz78_1⟩ := blkz2 BK215.out; have hfz78_0 := blkf BK215.out) | ((with_reducible refine gate_callee (f := 29) rfl ?_); refine goesL_ (some 67) rfl rfl Try.func29 (by kernel_rfl) rfl #[.agg #[.int .i64 t210, .slice Ao33 t226.length co33], .int .i64 1] rfl (by (try simp only [List.map_toArray, List.map_cons, List.map_nil]); first | done | (rw [show t226.length = t211.length from (Kd.R_reads' HO_216001.out).1.symm] <;> rfl) | rfl | (simp only [List.length_drop, List.length_take]; rfl)) ?_; (with_reducible refine (laws_heldTable.calls kj52 t210 _ _ t226 1 t227 _ ?side1 ?side2 A72.out).mono ?_); (case side1 => repeat (first | exact (Kd.R_reads' HO_216001.out).2.2 | (with_reducible refine Kd.C_alloc ?_ _) | (with_reducible refine Kd.C_drewN ?_ _) | (with_reducible refine Kd.C_drew ?_))); (case side2 => rw [show t226.length = t211.length from (Kd.R_reads' HO_216001.out).1.symm]; exact (Kd.R_reads' HO_216001.out).2.1); rintro e w79 ⟨rfl, hb⟩; refine ⟨_, rfl, ?_⟩; have n_ := an (Kd.R_below (by exact Kd.R_nw HO_205001.out) hb) (an (Kd.R_below (by exact Kd.R_nw HO_210001.out) hb) (an (Kd.R_below (by exact Kd.R_nw HO_216001.out) hb) (an (blk_below (blk_nw BK193.out) hb) (an (blk_below (blk_nw BK204.out) hb) (an (blk_below (blk_nw BK209.out) hb) (an (blk_below (blk_nw BK215.out) hb) (an (below_step (by exact bel0) hb) (trivial)))))))); clear HO_205001 HO_210001 HO_216001 BK193 BK204 BK209 BK215 HB; obtain ⟨HO_205001, HO_210001, HO_216001, BK193, BK204, BK209, BK215, HB, -⟩ := n_; (try clear hb); (try clear hb2); (try clear hk); (try clear hi); refine Stop.out ?_))
         refine Stop.mk ?_
         replace H := H.out
         by_cases c80 : t227 < 0
         ·rw [if_pos c80] at H; have c80b0 : decide (t227 < 0) = true := decide_eq_true c80; clear c80; (try simp only [c80b0])
          obtain rfl := Option.some.inj H
          go_wp2
          go_ret
          exact ⟨by first | rfl | (simp [errW_none, errW_some] <;> rfl) | (simp [*, errW_none, errW_some] <;> rfl), by exact bel0⟩
         ·rw [if_neg c80] at H; have c80b0 : decide (t227 < 0) = false := decide_eq_false c80; clear c80; (try simp only [c80b0])
          by_cases c81 : t227 = t225
          ·rw [if_pos c81] at H; have c81b0 : (t227 == t225) = true := beq_iff_eq.mpr c81; have c81b1 : (t227 != t225) = false := bne_eq_false_iff_eq.mpr c81; clear c81; replace H := Option.bind_eq_some_iff.mp H
           obtain ⟨⟨t228, t229⟩, A820, H⟩ := H
           replace H : ((impl_Leave.f kj52 t228 t229).bind fun bt232 => ((laws_eqTable.f kj52 bt232.1 bt232.2.1 t199 t200).bind fun t238 => (if t238 = true then (laws_FnExactLeave.j2 kj52 t225 (bt232.2.2 != t203) t210 t226) else (laws_FnExactLeave.j2 kj52 t225 true t210 t226)))) = some r := H
           have A82 := Aside0.mk A820; clear A820; replace H := Option.bind_eq_some_iff.mp H
           obtain ⟨⟨t232, t233, t236⟩, A830, H⟩ := H
           replace H : ((laws_eqTable.f kj52 t232 t233 t199 t200).bind fun t238 => (if t238 = true then (laws_FnExactLeave.j2 kj52 t225 (t236 != t203) t210 t226) else (laws_FnExactLeave.j2 kj52 t225 true t210 t226))) = some r := H
           have A83 := Aside0.mk A830; clear A830; have HC84 := Aside0.mk H; clear H; have hnb85 := NB193_204.out; have hnc85 := NB204_193.out; have hnb86 := NB193_209.out; have hnc86 := NB209_193.out; have hnb87 := NB193_215.out; have hnc87 := NB215_193.out; obtain ⟨hcz88_0, hcz88_1⟩ := blkz2 BK193.out; have hfz88_0 := blkf BK193.out
           go_upto_region 25 with (first | ((with_reducible refine gate_callee (f := 25) rfl ?_); refine goesL_ (some 75) rfl rfl Try.func25 (by kernel_rfl) rfl #[.agg #[.int .i64 a0_0, .slice A0_1 l0_1.length c0_1]] rfl (by (try simp only [List.map_toArray, List.map_cons, List.map_nil]); first | done | rfl | (simp only [List.length_drop, List.length_take]; rfl)) ?_; (with_reducible refine (laws_toTable.calls kj52 a0_0 _ _ l0_1 t228 t229 _ ?side1 ?side2 A82.out).mono ?_); (case side1 => repeat (first | exact (Kd.C_below HR0_1.out HB.out) | (with_reducible refine Kd.C_alloc ?_ _) | (with_reducible refine Kd.C_drewN ?_ _) | (with_reducible refine Kd.C_drew ?_))); (case side2 => exact HC0_1.out); rintro e w89 ⟨v230, rfl, ho0, hb⟩; refine ⟨_, rfl, ?_⟩; have n_ := an (Kd.R_elder' (by exact Kd.R_nw HO_205001.out) (Kd.R_base ho0) hb) (an (Kd.R_elder' (by exact Kd.R_nw HO_210001.out) (Kd.R_base ho0) hb) (an (Kd.R_elder' (by exact Kd.R_nw HO_216001.out) (Kd.R_base ho0) hb) (an (Kd.R_lower (Kd.R_new' (Kd.R_new' (Kd.R_new' ho0 (Kd.R_lt (by exact Kd.R_nw HO_205001.out))) (Kd.R_lt (by exact Kd.R_nw HO_210001.out))) (Kd.R_lt (by exact Kd.R_nw HO_216001.out))) (below_size (by exact bel0))) (an (blk_below (blk_nw BK193.out) hb) (an (blk_below (blk_nw BK204.out) hb) (an (blk_below (blk_nw BK209.out) hb) (an (blk_below (blk_nw BK215.out) hb) (an (below_step (by exact bel0) hb) (trivial))))))))); clear HO_205001 HO_210001 HO_216001 BK193 BK204 BK209 BK215 HB; obtain ⟨HO_205001, HO_210001, HO_216001, HO231, BK193, BK204, BK209, BK215, HB, -⟩ := n_; (try clear hb); (try clear hb2); (try clear hk); (try clear hi); (try clear ho0); obtain ⟨Ao90, co90, eo90⟩ := Kd.R_slice HO231.out; subst eo90) | ((with_reducible refine gate_callee (f := 26) rfl ?_); refine goesL_ (some 76) rfl rfl Try.func26 (by kernel_rfl) rfl #[.agg #[.int .i64 t228, .slice Ao90 t229.length co90]] rfl (by (try simp only [List.map_toArray, List.map_cons, List.map_nil]); first | done | rfl | (simp only [List.length_drop, List.length_take]; rfl)) ?_; (with_reducible refine (impl_Leave.calls kj52 t228 _ _ t229 t232 t233 t236 _ ?side1 ?side2 A83.out).mono ?_); (case side1 => repeat (first | exact (Kd.R_reads' HO231.out).2.2 | (with_reducible refine Kd.C_alloc ?_ _) | (with_reducible refine Kd.C_drewN ?_ _) | (with_reducible refine Kd.C_drew ?_))); (case side2 => exact (Kd.R_reads' HO231.out).2.1); rintro e w91 ⟨v234, rfl, ho0, hb⟩; refine ⟨_, rfl, ?_⟩; have n_ := an (Kd.R_elder' (by exact Kd.R_nw HO_205001.out) (Kd.R_base ho0) hb) (an (Kd.R_elder' (by exact Kd.R_nw HO_210001.out) (Kd.R_base ho0) hb) (an (Kd.R_elder' (by exact Kd.R_nw HO_216001.out) (Kd.R_base ho0) hb) (an (Kd.R_elder' (by exact Kd.R_nw HO231.out) (Kd.R_base ho0) hb) (an (Kd.R_lower (Kd.R_new' (Kd.R_new' (Kd.R_new' (Kd.R_new' ho0 (Kd.R_lt (by exact Kd.R_nw HO_205001.out))) (Kd.R_lt (by exact Kd.R_nw HO_210001.out))) (Kd.R_lt (by exact Kd.R_nw HO_216001.out))) (Kd.R_lt (by exact Kd.R_nw HO231.out))) (below_size (by exact bel0))) (an (blk_below (blk_nw BK193.out) hb) (an (blk_below (blk_nw BK204.out) hb) (an (blk_below (blk_nw BK209.out) hb) (an (blk_below (blk_nw BK215.out) hb) (an (below_step (by exact bel0) hb) (trivial)))))))))); clear HO_205001 HO_210001 HO_216001 HO231 BK193 BK204 BK209 BK215 HB; obtain ⟨HO_205001, HO_210001, HO_216001, HO231, HO235, BK193, BK204, BK209, BK215, HB, -⟩ := n_; (try clear hb); (try clear hb2); (try clear hk); (try clear hi); (try clear ho0)) | ((with_reducible refine gate_dst (N := 12) rfl ?_); refine box_event ?hg (N := 12) ?hd (cs := #[.int .i64 0, .slice none 0 0]) (t := 41) ?hr ?_; (case hd => rfl); (case hg => rfl); (case hr => first | (go_simp; done) | (go_simp; rfl)); intro gb237 hg w92 hbox hb; have n_ := an (Kd.R_below (by exact Kd.R_nw HO_205001.out) hb) (an (Kd.R_below (by exact Kd.R_nw HO_210001.out) hb) (an (Kd.R_below (by exact Kd.R_nw HO_216001.out) hb) (an (Kd.R_below (by exact Kd.R_nw HO231.out) hb) (an (Kd.R_below (by exact Kd.R_nw HO235.out) hb) (an (blk_below (blk_nw BK193.out) hb) (an (blk_below (blk_nw BK204.out) hb) (an (blk_below (blk_nw BK209.out) hb) (an (blk_below (blk_nw BK215.out) hb) (an (below_step (by exact bel0) hb) (an (hbox) (an ((by rw [hg]; exact (below_size (by exact bel0)) : w.heap.size ≤ gb237)) (an ((by rw [hg]; exact (below_size (by exact bel0)) : w.heap.size ≤ gb237)) (an ((by rw [hg]; exact Nat.ne_of_lt (blk_lt (blk_nw BK193.out)) : gb193 ≠ gb237)) (an ((by rw [hg]; exact Nat.ne_of_gt (blk_lt (blk_nw BK193.out)) : gb237 ≠ gb193)) (an ((by rw [hg]; exact Nat.ne_of_lt (blk_lt (blk_nw BK204.out)) : gb204 ≠ gb237)) (an ((by rw [hg]; exact Nat.ne_of_gt (blk_lt (blk_nw BK204.out)) : gb237 ≠ gb204)) (an ((by rw [hg]; exact Nat.ne_of_lt (blk_lt (blk_nw BK209.out)) : gb209 ≠ gb237)) (an ((by rw [hg]; exact Nat.ne_of_gt (blk_lt (blk_nw BK209.out)) : gb237 ≠ gb209)) (an ((by rw [hg]; exact Nat.ne_of_lt (blk_lt (blk_nw BK215.out)) : gb215 ≠ gb237)) (an ((by rw [hg]; exact Nat.ne_of_gt (blk_lt (blk_nw BK215.out)) : gb237 ≠ gb215)) (trivial))))))))))))))))))))); clear HO_205001 HO_210001 HO_216001 HO231 HO235 BK193 BK204 BK209 BK215 HB; obtain ⟨HO_205001, HO_210001, HO_216001, HO231, HO235, BK193, BK204, BK209, BK215, HB, BK237, GW237, GE237, NB193_237, NB237_193, NB204_237, NB237_204, NB209_237, NB237_209, NB215_237, NB237_215, -⟩ := n_; clear hb hbox hg; have hnb93 := NB237_193.out; have hnc93 := NB193_237.out; have hnb94 := NB237_204.out; have hnc94 := NB204_237.out; have hnb95 := NB237_209.out; have hnc95 := NB209_237.out; have hnb96 := NB237_215.out; have hnc96 := NB215_237.out; obtain ⟨hcz97_0, hcz97_1⟩ := blkz2 BK237.out; have hfz97_0 := blkf BK237.out; obtain ⟨Ao98, co98, eo98⟩ := Kd.R_slice HO235.out; subst eo98))
           (try simp only [Act.put, List.setIfInBounds_toArray, List.set_cons_zero, List.set_cons_succ])
           go_cut [87] (fun v87 wc => ∃ (kq : Nat) (x87_83 : Bool), v87 = .bool x87_83 ∧ Aside0 (laws_FnExactLeave.j2 kq t225 x87_83 t210 t226 = some r) ∧ Aside0 (kq ≤ kj52) ∧ Aside0 (Kd.R k82 82 wc w.heap.size (fun k_ => some k_ ≠ ((.slice Ao26 t223.length co26) : Value).ownBlock ∧ some k_ ≠ ((.slice Ao33 t211.length co33) : Value).ownBlock ∧ some k_ ≠ ((.slice Ao98 t233.length co98) : Value).ownBlock) (.slice Ao19 t200.length co19) t200) ∧ Aside0 (Kd.R k82 82 wc w.heap.size (fun k_ => some k_ ≠ ((.slice Ao19 t200.length co19) : Value).ownBlock ∧ some k_ ≠ ((.slice Ao33 t211.length co33) : Value).ownBlock ∧ some k_ ≠ ((.slice Ao98 t233.length co98) : Value).ownBlock) (.slice Ao26 t223.length co26) t223) ∧ Aside0 (Kd.R k82 82 wc w.heap.size (fun k_ => some k_ ≠ ((.slice Ao19 t200.length co19) : Value).ownBlock ∧ some k_ ≠ ((.slice Ao26 t223.length co26) : Value).ownBlock ∧ some k_ ≠ ((.slice Ao98 t233.length co98) : Value).ownBlock) (.slice Ao33 t211.length co33) t226) ∧ Aside0 (Kd.R k82 82 wc w.heap.size (fun k_ => some k_ ≠ ((.slice Ao19 t200.length co19) : Value).ownBlock ∧ some k_ ≠ ((.slice Ao26 t223.length co26) : Value).ownBlock ∧ some k_ ≠ ((.slice Ao33 t211.length co33) : Value).ownBlock) (.slice Ao98 t233.length co98) t233) ∧ Aside0 (wc.heap[gb193]? = some (.cells #[.int .i64 a0_0, (.slice A0_1 l0_1.length c0_1)] 37 (0, 0))) ∧ Aside0 (wc.heap[gb204]? = some (.cells #[.int .i64 t199, (.slice Ao19 t200.length co19)] 41 (0, 0))) ∧ Aside0 (wc.heap[gb209]? = some (.cells #[.int .i64 t205, (.slice Ao26 t223.length co26)] 41 (0, 0))) ∧ Aside0 (wc.heap[gb215]? = some (.cells #[.int .i64 t210, (.slice Ao33 t211.length co33)] 41 (0, 0))) ∧ Aside0 (wc.heap[gb237]? = some (.cells #[.int .i64 t232, (.slice Ao98 t233.length co98)] 41 (0, 0))) ∧ Aside0 (Below w.heap.size w wc))
           case first =>
            have H := HC84.out; clear HC84; replace H := Option.bind_eq_some_iff.mp H; obtain ⟨t238, A990, H⟩ := H; have A99 := Aside0.mk A990; clear A990; have hnb100 := NB237_193.out; have hnc100 := NB193_237.out; have hnb101 := NB237_204.out; have hnc101 := NB204_237.out; have hnb102 := NB237_209.out; have hnc102 := NB209_237.out; have hnb103 := NB237_215.out; have hnc103 := NB215_237.out; obtain ⟨hcz104_0, hcz104_1⟩ := blkz2 BK237.out; have hfz104_0 := blkf BK237.out; have hnb105 := NB204_193.out; have hnc105 := NB193_204.out; have hnb106 := NB204_209.out; have hnc106 := NB209_204.out; have hnb107 := NB204_215.out; have hnc107 := NB215_204.out; obtain ⟨hcz108_0, hcz108_1⟩ := blkz2 BK204.out; have hfz108_0 := blkf BK204.out
            replace H := Aside0.mk H
            go_wp2_with (first | ((with_reducible refine gate_callee (f := 27) rfl ?_); refine goesL_ (some 81) rfl rfl Try.func27 (by kernel_rfl) rfl #[.agg #[.int .i64 t232, .slice Ao98 t233.length co98], .agg #[.int .i64 t199, .slice Ao19 t200.length co19]] rfl (by (try simp only [List.map_toArray, List.map_cons, List.map_nil]); first | done | rfl | (simp only [List.length_drop, List.length_take]; rfl)) ?_; (with_reducible refine (laws_eqTable.calls kj52 t232 _ _ t233 t199 _ _ t200 t238 _ ?side1 ?side2 ?side3 ?side4 A99.out).mono ?_); (case side1 => refine (Kd.R_reads' (e := 82) (base := w.heap.size) (ok := fun k_ => ((((True ∧ some k_ ≠ (.slice Ao19 t200.length co19 : Value).ownBlock) ∧ some k_ ≠ (.slice Ao26 t223.length co26 : Value).ownBlock) ∧ some k_ ≠ (.slice Ao33 t211.length co33 : Value).ownBlock) ∧ some k_ ≠ (.slice Ao90 t229.length co90 : Value).ownBlock)) (n := t233.length) (c := co98) ?_).2.2; exact (by exact (Kd.R_farN HO235.out BK237.out))); (case side2 => exact (Kd.R_reads' HO235.out).2.1); (case side3 => refine (Kd.R_reads' (e := 82) (base := w.heap.size) (ok := fun k_ => (((some k_ ≠ (.slice Ao26 t223.length co26 : Value).ownBlock ∧ some k_ ≠ (.slice Ao33 t211.length co33 : Value).ownBlock) ∧ some k_ ≠ (.slice Ao90 t229.length co90 : Value).ownBlock) ∧ some k_ ≠ (.slice Ao98 t233.length co98 : Value).ownBlock)) (n := t200.length) (c := co19) ?_).2.2; exact (by exact (Kd.R_farN HO_205001.out BK237.out))); (case side4 => exact (Kd.R_reads' HO_205001.out).2.1); rintro e w109 ⟨rfl, hb⟩; refine ⟨_, rfl, ?_⟩; have n_ := an (Kd.R_below (by exact (Kd.R_farN HO_205001.out BK237.out)) hb) (an (Kd.R_below (by exact (Kd.R_farN HO_210001.out BK237.out)) hb) (an (Kd.R_below (by exact (Kd.R_farN HO_216001.out BK237.out)) hb) (an (Kd.R_below (by exact (Kd.R_farN HO231.out BK237.out)) hb) (an (Kd.R_below (by exact (Kd.R_farN HO235.out BK237.out)) hb) (an (blk_below (blk_kb BK193.out NB193_237.out) hb) (an (blk_below (blk_kb BK204.out NB204_237.out) hb) (an (blk_below (blk_kb BK209.out NB209_237.out) hb) (an (blk_below (blk_kb BK215.out NB215_237.out) hb) (an (blk_below (g := gb237) (o := .cells #[.int .i64 t232, .slice Ao98 t233.length co98] 41 (0, 0)) (by (with_reducible repeat (first | refine blk_drewN ?_ _ | refine blk_drew ?_ | refine blk_alloc ?_ _)); exact blk_fill2 BK237.out) hb) (an (below_step (by exact bel0) hb) (trivial))))))))))); clear HO_205001 HO_210001 HO_216001 HO231 HO235 BK193 BK204 BK209 BK215 BK237 HB; obtain ⟨HO_205001, HO_210001, HO_216001, HO231, HO235, BK193, BK204, BK209, BK215, BK237, HB, -⟩ := n_; (try clear hb); (try clear hb2); (try clear hk); (try clear hi); refine Stop.out ?_))
            refine Stop.mk ?_
            replace H := H.out
            by_cases c110 : t238 = true
            ·subst c110; rw [if_pos rfl] at H
             have H' := Aside0.mk H
             clear H
             go_wp2
             go_meet
             case rel => exact ⟨_, ((t236 != t203)), (by first | rfl | (simp; done) | (simp [*]; done)), H', ⟨by have := HJ10.out; have := HJ52.out; first | omega | exact Nat.le_refl _⟩, ⟨by (try simp only [hl210001_52]); exact Kd.R_nw (Kd.R_mono HO_205001.out (fun _ hk => ⟨hk.1.1.1, ⟨hk.1.1.2, hk.2⟩⟩))⟩, ⟨by (try simp only [hl210001_52]); exact Kd.R_nw (Kd.R_mono HO_210001.out (fun _ hk => ⟨hk.1.1.1, ⟨hk.1.1.2, hk.2⟩⟩))⟩, ⟨by (try simp only [hl210001_52]); exact Kd.R_nw (Kd.R_mono HO_216001.out (fun _ hk => ⟨hk.1.1.1, ⟨hk.1.1.2, hk.2⟩⟩))⟩, ⟨by (try simp only [hl210001_52]); exact Kd.R_nw (Kd.R_mono HO235.out (fun _ hk => ⟨hk.1.1.1.2, ⟨hk.1.1.2, hk.1.2⟩⟩))⟩, ⟨by (try simp only [hl210001_52]); exact blk_nw BK193.out⟩, ⟨by (try simp only [hl210001_52]); exact blk_nw BK204.out⟩, ⟨by (try simp only [hl210001_52]); exact blk_nw BK209.out⟩, ⟨by (try simp only [hl210001_52]); exact blk_nw BK215.out⟩, ⟨by (try simp only [hl210001_52]); exact blk_nw BK237.out⟩, ⟨by exact bel0⟩⟩
            ·replace c110 := Bool.eq_false_iff.mpr c110
             subst c110
             rw [if_neg (show ¬ (false = true) by decide)] at H
             have H' := Aside0.mk H
             clear H
             go_wp2
             go_meet
             case rel => exact ⟨_, (true), (by first | rfl | (simp; done) | (simp [*]; done)), H', ⟨by have := HJ10.out; have := HJ52.out; first | omega | exact Nat.le_refl _⟩, ⟨by (try simp only [hl210001_52]); exact Kd.R_nw (Kd.R_mono HO_205001.out (fun _ hk => ⟨hk.1.1.1, ⟨hk.1.1.2, hk.2⟩⟩))⟩, ⟨by (try simp only [hl210001_52]); exact Kd.R_nw (Kd.R_mono HO_210001.out (fun _ hk => ⟨hk.1.1.1, ⟨hk.1.1.2, hk.2⟩⟩))⟩, ⟨by (try simp only [hl210001_52]); exact Kd.R_nw (Kd.R_mono HO_216001.out (fun _ hk => ⟨hk.1.1.1, ⟨hk.1.1.2, hk.2⟩⟩))⟩, ⟨by (try simp only [hl210001_52]); exact Kd.R_nw (Kd.R_mono HO235.out (fun _ hk => ⟨hk.1.1.1.2, ⟨hk.1.1.2, hk.1.2⟩⟩))⟩, ⟨by (try simp only [hl210001_52]); exact blk_nw BK193.out⟩, ⟨by (try simp only [hl210001_52]); exact blk_nw BK204.out⟩, ⟨by (try simp only [hl210001_52]); exact blk_nw BK209.out⟩, ⟨by (try simp only [hl210001_52]); exact blk_nw BK215.out⟩, ⟨by (try simp only [hl210001_52]); exact blk_nw BK237.out⟩, ⟨by exact bel0⟩⟩
           case rest =>
            clear HC84; try clear c1; try clear c2; try clear p2; try clear c3; try clear c4; try clear c5; try clear c6; try clear c6b0; try clear c7; try clear c8; try clear c9; try clear c10; try clear c11; try clear c17; try clear c23; try clear c24; try clear c25; try clear c26; try clear c27; try clear c28; try clear c29; try clear c30; try clear c31; try clear c35; try clear c36; try clear c37; try clear c39; try clear c40; try clear c43; try clear c44; try clear c51; try clear c54; try clear c55; try clear c56; try clear c59; try clear c59b0; try clear c61; try clear c62; try clear c63; try clear c65; try clear c66; try clear c69; try clear c70; try clear c73; try clear c74; try clear c75; try clear c80; try clear c80b0; try clear c81; try clear c81b0; try clear c81b1; try clear c85; try clear c86; try clear c87; try clear c93; try clear c94; try clear c95; try clear c96; try clear c100; try clear c101; try clear c102; try clear c103; try clear c105; try clear c106; try clear c107; try clear c110; try clear hcz104_0; try clear hcz104_1; try clear hcz108_0; try clear hcz108_1; try clear hcz12_0; try clear hcz12_1; try clear hcz18_0; try clear hcz18_1; try clear hcz20_0; try clear hcz20_1; try clear hcz25_0; try clear hcz25_1; try clear hcz32_0; try clear hcz32_1; try clear hcz38_0; try clear hcz38_1; try clear hcz41_0; try clear hcz41_1; try clear hcz4_0; try clear hcz4_1; try clear hcz57_0; try clear hcz57_1; try clear hcz64_0; try clear hcz64_1; try clear hcz67_0; try clear hcz67_1; try clear hcz76_0; try clear hcz76_1; try clear hcz78_0; try clear hcz78_1; try clear hcz88_0; try clear hcz88_1; try clear hcz97_0; try clear hcz97_1; try clear hfz104_0; try clear hfz104_1; try clear hfz108_0; try clear hfz108_1; try clear hfz12_0; try clear hfz12_1; try clear hfz18_0; try clear hfz18_1; try clear hfz20_0; try clear hfz20_1; try clear hfz25_0; try clear hfz25_1; try clear hfz32_0; try clear hfz32_1; try clear hfz38_0; try clear hfz38_1; try clear hfz41_0; try clear hfz41_1; try clear hfz4_0; try clear hfz4_1; try clear hfz57_0; try clear hfz57_1; try clear hfz64_0; try clear hfz64_1; try clear hfz67_0; try clear hfz67_1; try clear hfz76_0; try clear hfz76_1; try clear hfz78_0; try clear hfz78_1; try clear hfz88_0; try clear hfz88_1; try clear hfz97_0; try clear hfz97_1; try clear p2
            obtain ⟨kq, x87_83, rfl, HA, HJ83, HO_205001, HO_210001, HO_216001, HO_238001, BK193, BK204, BK209, BK215, BK237, HB⟩ := hcut
            have hl216001_83 := (Kd.R_reads' HO_216001.out).1
            rw [hl216001_83] at HO_216001
            (try simp only [hl216001_83])
            (try simp only [hl216001_83] at BK193)
            (try simp only [hl216001_83] at BK204)
            (try simp only [hl216001_83] at BK209)
            (try simp only [hl216001_83] at BK215)
            (try simp only [hl216001_83] at BK237)
            (try simp only [hl216001_83] at HO_205001)
            (try simp only [hl216001_83] at HO_210001)
            (try simp only [hl216001_83] at HO_238001)
            cases kq with
            | zero => exact absurd HA.out (by simp [laws_FnExactLeave.j2])
            | succ kj83 =>
             have H := HA.out; clear HA
             simp only [laws_FnExactLeave.j2] at H
             by_cases c111 : x87_83 = true
             ·subst c111; rw [if_pos rfl] at H
              obtain rfl := Option.some.inj H
              go_wp2
              go_ret
              exact ⟨by first | rfl | (simp [errW_none, errW_some] <;> rfl) | (simp [*, errW_none, errW_some] <;> rfl), by exact bel0⟩
             ·replace c111 := Bool.eq_false_iff.mpr c111
              subst c111
              rw [if_neg (show ¬ (false = true) by decide)] at H
              replace H := Option.bind_eq_some_iff.mp H; obtain ⟨t239, A1120, H⟩ := H; have A112 := Aside0.mk A1120; clear A1120; have hnb113 := NB215_193.out; have hnc113 := NB193_215.out; have hnb114 := NB215_204.out; have hnc114 := NB204_215.out; have hnb115 := NB215_209.out; have hnc115 := NB209_215.out; have hnb116 := NB215_237.out; have hnc116 := NB237_215.out; obtain ⟨hcz117_0, hcz117_1⟩ := blkz2 BK215.out; have hfz117_0 := blkf BK215.out
              replace H := Aside0.mk H
              go_wp2_with (first | ((with_reducible refine gate_callee (f := 29) rfl ?_); refine goesL_ (some 90) rfl rfl Try.func29 (by kernel_rfl) rfl #[.agg #[.int .i64 t210, .slice Ao33 t226.length co33], .int .i64 1] rfl (by (try simp only [List.map_toArray, List.map_cons, List.map_nil]); first | done | rfl | (simp only [List.length_drop, List.length_take]; rfl)) ?_; (with_reducible refine (laws_heldTable.calls kj83 t210 _ _ t226 1 t239 _ ?side1 ?side2 A112.out).mono ?_); (case side1 => repeat (first | exact (Kd.R_reads' HO_216001.out).2.2 | (with_reducible refine Kd.C_alloc ?_ _) | (with_reducible refine Kd.C_drewN ?_ _) | (with_reducible refine Kd.C_drew ?_))); (case side2 => exact (Kd.R_reads' HO_216001.out).2.1); rintro e w118 ⟨rfl, hb⟩; refine ⟨_, rfl, ?_⟩; have n_ := an (Kd.R_below (by exact Kd.R_nw HO_205001.out) hb) (an (Kd.R_below (by exact Kd.R_nw HO_210001.out) hb) (an (Kd.R_below (by exact Kd.R_nw HO_216001.out) hb) (an (Kd.R_below (by exact Kd.R_nw HO_238001.out) hb) (an (blk_below (blk_nw BK193.out) hb) (an (blk_below (blk_nw BK204.out) hb) (an (blk_below (blk_nw BK209.out) hb) (an (blk_below (blk_nw BK215.out) hb) (an (blk_below (blk_nw BK237.out) hb) (an (below_step (by exact bel0) hb) (trivial)))))))))); clear HO_205001 HO_210001 HO_216001 HO_238001 BK193 BK204 BK209 BK215 BK237 HB; obtain ⟨HO_205001, HO_210001, HO_216001, HO_238001, BK193, BK204, BK209, BK215, BK237, HB, -⟩ := n_; (try clear hb); (try clear hb2); (try clear hk); (try clear hi); refine Stop.out ?_))
              refine Stop.mk ?_
              replace H := H.out
              by_cases c119 : t239 < 0
              ·rw [if_pos c119] at H; have c119b0 : decide (t239 < 0) = true := decide_eq_true c119; clear c119; (try simp only [c119b0])
               obtain rfl := Option.some.inj H
               go_wp2
               go_ret
               exact ⟨by first | rfl | (simp [errW_none, errW_some] <;> rfl) | (simp [*, errW_none, errW_some] <;> rfl), by exact bel0⟩
              ·rw [if_neg c119] at H; have c119b0 : decide (t239 < 0) = false := decide_eq_false c119; clear c119; (try simp only [c119b0])
               by_cases c120 : t239 = t225
               ·rw [if_pos c120] at H; have c120b0 : (t239 == t225) = true := beq_iff_eq.mpr c120; have c120b1 : (t239 != t225) = false := bne_eq_false_iff_eq.mpr c120; clear c120
                obtain rfl := Option.some.inj H
                go_wp2
                go_ret
                exact ⟨by first | rfl | (simp [errW_none, errW_some] <;> rfl) | (simp [*, errW_none, errW_some] <;> rfl), by exact bel0⟩
               ·rw [if_neg c120] at H; have c120b0 : (t239 == t225) = false := beq_eq_false_iff_ne.mpr c120; have c120b1 : (t239 != t225) = true := bne_iff_ne.mpr c120
                obtain rfl := Option.some.inj H
                go_wp2
                go_ret
                exact ⟨by first | rfl | (simp [errW_none, errW_some] <;> rfl) | (simp [*, errW_none, errW_some] <;> rfl), by exact bel0⟩
          ·rw [if_neg c81] at H; have c81b0 : (t227 == t225) = false := beq_eq_false_iff_ne.mpr c81; have c81b1 : (t227 != t225) = true := bne_iff_ne.mpr c81
           obtain rfl := Option.some.inj H
           go_wp2
           go_ret
           exact ⟨by first | rfl | (simp [errW_none, errW_some] <;> rfl) | (simp [*, errW_none, errW_some] <;> rfl), by exact bel0⟩
     ·replace c51 := Bool.eq_false_iff.mpr c51
      subst c51
      rw [if_neg (show ¬ (false = true) by decide)] at H
      obtain rfl := Option.some.inj H
      go_wp2
      go_ret
      exact ⟨by first | rfl | (simp [errW_none, errW_some] <;> rfl) | (simp [*, errW_none, errW_some] <;> rfl), by exact bel0⟩

end Go.Proofs.Ytigoajblljolcaa.XFnExactLeave
