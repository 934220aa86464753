-- Written by this session's own program (xprint.py) over the kit's print.
import Derived.Test.YtigoajblljolcaaXFnExactWheelTickx0
import Derived.Test.YtigoajblljolcaaXFnExactWheelTickx4
import Derived.Test.YtigoajblljolcaaXFnExactWheelTickx6
namespace Go.Proofs.Ytigoajblljolcaa.XFnExactWheelTick
open Go.RowKit Go.Proofs.YtigoajblljolcaaW.PrintWords Go.Proofs.YtigoajblljolcaaW.PrintLast Go.Proofs.YtigoajblljolcaaW.PrintMore
attribute [local go_sem] max2_int min2_int max_two min_two max_three min_three max_four min_four   -- for this text's walks alone
set_option linter.unusedVariables false
set_option linter.unusedSimpArgs false

/-! ### impl_Timer_142: function 142 -/
def impl_Timer_142.f (l0 : List (S133)) : Option (List (S133)) := if l0.length < 8796093022208 then (some l0) else (none)
set_option maxHeartbeats 8000000 in
set_option maxRecDepth 100000 in
theorem impl_Timer_142.calls (A0 : Option Addr) (c0 : Nat) (l0 : List (S133)) (r : List (S133)) (w : World) (hr0 : Kd.C k133 w A0 l0.length l0) (hc0 : l0.length ≤ c0) (h : impl_Timer_142.f l0 = some r) :
  Calls Try.prog 142 #[.slice A0 l0.length c0] w fun e w' => ∃ v0_ : Value, e = .returned (v0_) ∧ Kd.R k133 133 w' w.heap.size (fun _ => True) v0_ r ∧ Below w.heap.size w w' := by
 have HR0 := Aside0.mk hr0; have HC0 := Aside0.mk hc0; clear hr0 hc0
 have HB := Aside0.mk (Below.refl w.heap.size w)
 have hq := fun wx => Lib.run_eql_slice_nil (P := Try.prog) wx 52 133 A0 l0.length c0 0 0 Try.underlying52
 unfold impl_Timer_142.f at h
 by_cases hl : l0.length < 8796093022208
 ·rw [if_pos hl] at h
  obtain rfl := Option.some.inj h
  have HL := Aside0.mk hl; clear hl h
  cases A0 with
  | none =>
   have hz : l0 = [] := by
    rcases Nat.eq_zero_or_pos l0.length with h0 | h0
    ·exact List.eq_nil_of_length_eq_zero h0
    ·obtain ⟨ad, he, _⟩ := HR0.out.2.2 h0
     cases he
   subst hz; clear hq
   have hq0 := fun wx => Lib.run_eql_slice_nil (P := Try.prog) wx 52 133 none 0 c0 0 0 Try.underlying52
   simp only [List.length_nil, Option.isNone_none] at hq0 ⊢
   go_enter Try.func142, Try.ntmps142
   go_wp2
   go_ret
   exact ⟨_, rfl, Kd.R_nil _ _ _ _ _, HB.out⟩
  | some ad =>
   go_enter Try.func142, Try.ntmps142
   go_wp2_with (first | ((with_reducible refine gate_dst (N := 5) rfl ?_); refine Kd.R_lit k133 _ 133 ?hg (N := 5) ?hd (xs := ([] : List (S133))) (inner := []) (ok := fun _ => True) (okp := fun _ => True) ?hr ?hp (fun _ hk => hk) trivial (Below.refl _ _) (Nat.le_refl _) (by simp) ?_; (case hd => rfl); (case hg => rfl); (case hr => first | (go_simp; done) | (go_simp; rfl)); (case hp => exact (Reps.none _ _)); intro v1 w1 ho1 hb hg_ hnew_; clear hg_ hnew_; have HO := Aside0.mk (Kd.R_lower ho1 (below_size HB.out)); replace HB := Aside0.mk (below_step HB.out hb); clear hb ho1) | ((with_reducible refine gate_builtin (b := .append) (xs := #[.tmp 5, .tmp 6]) rfl ?_); at_builtin; refine Kd.R_append_rows k133 (w0 := w) w.heap.size rfl (.tmp 5) (.tmp 6) 52 133 (.agg #[(.int .i64 0), (.int .i64 0)]) 16 rfl Try.underlying52 info133 rfl (by decide) (by omega) v1 [] l0 _ _ _ (fun _ => True) (fun _ => False) rfl rfl ?aO ?aR (fun _ _ h => h) (fun _ h => h.elim) ?aF ?aB ?aS ?aL ?_; (case aR => exact Kd.C_below HR0.out HB.out); (case aB => exact HB.out); (case aF => exact (fun _ _ => trivial)); (case aO => exact HO.out); (case aS => exact below_size HB.out); (case aL => have := HL.out; simp only [List.length_nil]; omega); intro v2 w2 ho hb hg hat; rw [List.nil_append] at ho; clear HB HO; have HB := Aside0.mk hb; have HO := Aside0.mk ho; clear ho hb hg hat))
   go_ret
   exact ⟨_, rfl, HO.out, HB.out⟩
 ·rw [if_neg hl] at h
  exact absurd h (by simp)

/-! ### impl_Wheel_own: function 93 -/
def impl_Wheel_own.f (a0_0 : Int) (l0_1 : List (S133)) : Option (Int × (List (S133))) := (impl_Timer_142.f l0_1).bind fun t202 => (some (a0_0, t202))
set_option maxHeartbeats 8000000 in
set_option maxRecDepth 100000 in
theorem impl_Wheel_own.calls (a0_0 : Int) (A0_1 : Option Addr) (c0_1 : Nat) (l0_1 : List (S133)) (r1 : Int) (r2 : List (S133)) (w : World) (hr0_1 : Kd.C k133 w A0_1 l0_1.length l0_1) (hc0_1 : l0_1.length ≤ c0_1) (h : impl_Wheel_own.f a0_0 l0_1 = some (r1, r2)) :
  Calls Try.prog 93 #[.agg #[.int .i64 a0_0, .slice A0_1 l0_1.length c0_1]] w fun e w' => ∃ v1_ : Value, e = .returned (.agg #[.int .i64 r1, v1_]) ∧ Kd.R k133 133 w' w.heap.size (fun _ => True) v1_ r2 ∧ Below w.heap.size w w' := by
 have hu54 := Try.underlying54
 have HR0_1 := Aside0.mk hr0_1; have HC0_1 := Aside0.mk hc0_1; clear hr0_1 hc0_1
 have HB := Aside0.mk (Below.refl w.heap.size w)
 have H : ((impl_Timer_142.f l0_1).bind fun t202 => (some (a0_0, t202))) = some (r1, r2) := h
 clear h; replace H := Option.bind_eq_some_iff.mp H; obtain ⟨t202, A20, H⟩ := H; have A2 := Aside0.mk A20; clear A20; simp only [Option.some.injEq, Prod.mk.injEq] at H; obtain ⟨rfl, rfl⟩ := H; go_enter Try.func93, Try.ntmps93
 go_wp2_with (first | ((with_reducible refine gate_dst (N := 1) rfl ?_); refine box_event ?hg (N := 1) ?hd (cs := #[.int .i64 a0_0, .slice A0_1 l0_1.length c0_1]) (t := 54) ?hr ?_; (case hd => rfl); (case hg => rfl); (case hr => first | (go_simp; done) | (go_simp; rfl)); intro gb200 hg w3 hbox hb; have n_ := an (below_step (by exact bel0) hb) (an (hbox) (an ((by rw [hg]; exact (below_size (by exact bel0)) : w.heap.size ≤ gb200)) (an ((by rw [hg]; exact (below_size (by exact bel0)) : w.heap.size ≤ gb200)) (trivial)))); clear HB; obtain ⟨HB, BK200, GW200, GE200, -⟩ := n_; clear hb hbox hg) | ((with_reducible refine gate_dst (N := 2) rfl ?_); refine box_event ?hg (N := 2) ?hd (cs := #[.int .i64 0, .slice none 0 0]) (t := 54) ?hr ?_; (case hd => rfl); (case hg => rfl); (case hr => first | (go_simp; done) | (go_simp; rfl)); intro gb201 hg w4 hbox hb; have n_ := an (blk_below (blk_nw BK200.out) hb) (an (below_step (by exact bel0) hb) (an (hbox) (an ((by rw [hg]; exact (below_size (by exact bel0)) : w.heap.size ≤ gb201)) (an ((by rw [hg]; exact (below_size (by exact bel0)) : w.heap.size ≤ gb201)) (an ((by rw [hg]; exact Nat.ne_of_lt (blk_lt (blk_nw BK200.out)) : gb200 ≠ gb201)) (an ((by rw [hg]; exact Nat.ne_of_gt (blk_lt (blk_nw BK200.out)) : gb201 ≠ gb200)) (trivial))))))); clear BK200 HB; obtain ⟨BK200, HB, BK201, GW201, GE201, NB200_201, NB201_200, -⟩ := n_; clear hb hbox hg; have hnb5 := NB200_201.out; have hnc5 := NB201_200.out; obtain ⟨hcz6_0, hcz6_1⟩ := blkz2 BK200.out; have hfz6_0 := blkf BK200.out) | ((with_reducible refine gate_callee (f := 142) rfl ?_); refine goesL_ (some 5) rfl rfl Try.func142 (by kernel_rfl) rfl #[.slice A0_1 l0_1.length c0_1] rfl (by (try simp only [List.map_toArray, List.map_cons, List.map_nil]); first | done | rfl | (simp only [List.length_drop, List.length_take]; rfl)) ?_; (with_reducible refine (impl_Timer_142.calls _ _ l0_1 t202 _ ?side1 ?side2 A2.out).mono ?_); (case side1 => repeat (first | exact (Kd.C_below HR0_1.out HB.out) | (with_reducible refine Kd.C_alloc ?_ _) | (with_reducible refine Kd.C_drewN ?_ _) | (with_reducible refine Kd.C_drew ?_))); (case side2 => exact HC0_1.out); rintro e w7 ⟨v203, rfl, ho0, hb⟩; refine ⟨_, rfl, ?_⟩; have n_ := an (Kd.R_lower ho0 (below_size (by exact bel0))) (an (blk_below (blk_nw BK200.out) hb) (an (blk_below (blk_nw BK201.out) hb) (an (below_step (by exact bel0) hb) (trivial)))); clear BK200 BK201 HB; obtain ⟨HO204, BK200, BK201, HB, -⟩ := n_; (try clear hb); (try clear hb2); (try clear hk); (try clear hi); (try clear ho0); obtain ⟨Ao8, co8, eo8⟩ := Kd.R_slice HO204.out; subst eo8; obtain ⟨hcz9_0, hcz9_1⟩ := blkz2 BK200.out; have hfz9_0 := blkf BK200.out; obtain ⟨hcz10_0, hcz10_1⟩ := blkz2 BK201.out; have hfz10_0 := blkf BK201.out))
 refine bodyPost_ret (results_cell_row rfl _ _ gb201 54 #[.int .i64 a0_0, .slice Ao8 t202.length co8] (0, 0) _ rfl (by (with_reducible repeat (first | refine blk_drewN ?_ _ | refine blk_drew ?_ | refine blk_alloc ?_ _)); refine blk_put (cs := #[.int .i64 a0_0, .slice none 0 0]) ?_ 1 _ rfl; (with_reducible repeat (first | refine blk_drewN ?_ _ | refine blk_drew ?_ | refine blk_alloc ?_ _)); refine blk_put (cs := #[.int .i64 0, .slice none 0 0]) ?_ 0 _ rfl; (with_reducible repeat (first | refine blk_drewN ?_ _ | refine blk_drew ?_ | refine blk_alloc ?_ _)); refine blk_far ?_ NB201_200.out _; (with_reducible repeat (first | refine blk_drewN ?_ _ | refine blk_drew ?_ | refine blk_alloc ?_ _)); exact BK201.out) Try.underlying54 rfl (by kernel_rfl)) rfl ?_
 exact ⟨_, by first | rfl | (simp [errW_none, errW_some] <;> rfl) | (simp [*, errW_none, errW_some] <;> rfl), by (with_reducible repeat (first | apply Kd.R_alloc | apply Kd.R_drewN | apply Kd.R_drew)); exact Kd.R_mono (Kd.R_far (p := ⟨gb201, 1, none⟩) (Kd.R_far (p := ⟨gb201, 0, none⟩) (Kd.R_far (p := ⟨gb200, 1, none⟩) (Kd.R_types (Kd.R_types HO204.out BK200.out (by decide)) BK201.out (by decide)) (fun _ hk => hk.1.2) (.slice Ao8 t202.length co8)) (fun _ hk => hk.2) (.int .i64 a0_0)) (fun _ hk => hk.2) (.slice Ao8 t202.length co8)) (fun _ hk => trivial), by exact bel0⟩

/-! ### impl_Wheel_tick: function 100 -/
def impl_Wheel_tick.l0 : Nat → List Int → Int → List (S133) → Option (List Int × Int × (List (S133)))
  | 0, _, _, _ => none
  | k + 1, x5, x1000, x1001 => if (x1001.length : Int) > 0 then (if 0 < (x1001.length : Int) then (if ((rd_T133 x1001 0).f1) ≤ x1000 then (if x5.length < 17592186044416 then (if 1 ≤ (x1001.length : Int) then (impl_Wheel_tick.l0 k (x5 ++ [(rd_T133 x1001 0).f0]) x1000 (x1001.drop (1 : Int).toNat)) else (none)) else (none)) else (some (x5, x1000, x1001))) else (none)) else (some (x5, x1000, x1001))
def impl_Wheel_tick.f (k : Nat) (a0_0 : Int) (l0_1 : List (S133)) (a1 : Int) : Option (List Int × Int × (List (S133))) := impl_Wheel_tick.l0 k ([] : List Int) (wrap64 (a0_0 + a1)) l0_1
theorem impl_Wheel_tick.mono_l : ∀ k, (∀ y0 y1 y2, LeO (impl_Wheel_tick.l0 k y0 y1 y2) (impl_Wheel_tick.l0 (k + 1) y0 y1 y2))
 | 0 => fun _ _ _ r h => by simp [impl_Wheel_tick.l0] at h
 | k + 1 => by
  have ih0 := impl_Wheel_tick.mono_l k
  ·intro y0 y1 y2
   unfold impl_Wheel_tick.l0
   repeat' first
   | (with_reducible exact ih0 _ _ _)
   | (with_reducible exact LeO.refl _)
   | (with_reducible exact LeO.none _)
   | (with_reducible refine LeO.ite ?_ ?_)
   | (with_reducible refine LeO.bind ?_ (fun _ => ?_))
   | exact ih0 _ _ _
   | exact LeO.none _
   | refine LeO.ite ?_ ?_
   | refine LeO.bind ?_ (fun _ => ?_)
theorem impl_Wheel_tick.mono : ∀ a0 a1 a2 k, LeO (impl_Wheel_tick.f k a0 a1 a2) (impl_Wheel_tick.f (k + 1) a0 a1 a2) := by
 intro a0 a1 a2 k
 have ih0 := impl_Wheel_tick.mono_l k
 unfold impl_Wheel_tick.f
 repeat' first
   | (with_reducible exact ih0 _ _ _)
   | (with_reducible exact LeO.refl _)
   | (with_reducible exact LeO.none _)
   | (with_reducible refine LeO.ite ?_ ?_)
   | (with_reducible refine LeO.bind ?_ (fun _ => ?_))
   | exact ih0 _ _ _
   | exact LeO.none _
   | refine LeO.ite ?_ ?_
   | refine LeO.bind ?_ (fun _ => ?_)
set_option maxHeartbeats 8000000 in
set_option maxRecDepth 100000 in
theorem impl_Wheel_tick.calls (k : Nat) (g : Nat) (a0_0 : Int) (P0_1_ : Nat → Prop) (u9000_ : Value) (l0_1 : List (S133)) (a1 : Int) (r1 : List Int) (r2 : Int) (r3 : List (S133)) (w0 w : World) (hB : Below w0.heap.size w0 w) (hbx : w.heap[g]? = some (.cells #[.int .i64 a0_0, u9000_] 54 (0, 0))) (hgx : w0.heap.size ≤ g) (ho0_1 : Kd.R k133 133 w w0.heap.size P0_1_ u9000_ l0_1) (h : impl_Wheel_tick.f k a0_0 l0_1 a1 = some (r1, r2, r3)) :
  Calls Try.prog 100 #[.pointer (some ⟨g, 0, none⟩), .int .i64 a1] w fun e w' => ∃ v0_ : Value, e = .returned (v0_) ∧ ∃ v2_ : Value, Kd.R (Kd.int .i64) 3 w' w0.heap.size (fun k_ => (P0_1_ k_ ∨ w.heap.size ≤ k_)) v0_ r1 ∧ Kd.Q k133 133 w' w0.heap.size (fun k_ => (P0_1_ k_ ∨ w.heap.size ≤ k_)) v2_ r3 ∧ w'.heap[g]? = some (.cells #[.int .i64 r2, v2_] 54 (0, 0)) ∧ Below w0.heap.size w0 w' ∧ Kept w w' (fun k_ => (P0_1_ k_) ∨ k_ = g) := by
 have BK0 := Aside0.mk hbx; have GE0 := Aside0.mk hgx; clear hbx hgx
 have HO0_1 := Aside0.mk (show Kd.R k133 133 w w0.heap.size (fun k_ => (P0_1_ k_ ∨ w.heap.size ≤ k_)) u9000_ l0_1 from Kd.R_mono ho0_1 (fun k_ hk => (.inl hk)))
 have HK := Aside0.mk (Kept.refl w (fun k_ => (P0_1_ k_) ∨ k_ = g))
 have HW0 := Aside0.mk hB.size
 have HB := Aside0.mk hB; clear hB
 have H : (impl_Wheel_tick.l0 k ([] : List Int) (wrap64 (a0_0 + a1)) l0_1) = some (r1, r2, r3) := h
 clear h
 have H' := Aside0.mk H
 clear H; obtain ⟨hcz3_0, hcz3_1⟩ := blkz2 BK0.out; have hfz3_0 := blkf BK0.out; go_enter Try.func100, Try.ntmps100
 go_wp2
 repeat (go_quiet (fail); try go_wp2)
 go_loopg [5] k (fun kq v5 w' => ∃ (x5_1 : List Int) (x1001_1 : List (S133)) (u1001 : Value), Aside0 (impl_Wheel_tick.l0 kq x5_1 (wrap64 (a0_0 + a1)) x1001_1 = some (r1, r2, r3)) ∧ Aside0 (kq ≤ k) ∧ Aside0 (Kd.R (Kd.int .i64) 3 w' w0.heap.size (fun k_ => (P0_1_ k_ ∨ w.heap.size ≤ k_)) v5 x5_1) ∧ Aside0 (Kd.Q k133 133 w' w0.heap.size (fun k_ => (P0_1_ k_ ∨ w.heap.size ≤ k_)) u1001 x1001_1) ∧ Aside0 (w'.heap[g]? = some (.cells #[.int .i64 (wrap64 (a0_0 + a1)), u1001] 54 (0, 0))) ∧ Aside0 (Kept w w' (fun k_ => (P0_1_ k_) ∨ k_ = g)) ∧ Aside0 (Below w0.heap.size w0 w'))
 case atStart => exact ⟨(([] : List Int)), (l0_1), (u9000_), H', ⟨Nat.le_refl _⟩, ⟨by first | exact Kd.R_nil _ _ _ _ _ | exact Kd.N_nil _ _ _ _ _ | exact Kd.V_nil _ _ _ _ _ | exact Kd.Q_nil _ _ _ _ _ | exact Kd.S_nil _ _ _ _ _⟩, ⟨Kd.Q_of_R (by exact (Kd.R_farN HO0_1.out BK0.out))⟩, ⟨by (with_reducible repeat (first | refine blk_drewN ?_ _ | refine blk_drew ?_ | refine blk_alloc ?_ _)); refine blk_put (cs := #[.int .i64 a0_0, u9000_]) ?_ 0 _ rfl; (with_reducible repeat (first | refine blk_drewN ?_ _ | refine blk_drew ?_ | refine blk_alloc ?_ _)); exact BK0.out⟩, ⟨by exact kpt⟩, ⟨by exact bel0⟩⟩
 case round =>
  clear H'
  try clear c1; try clear p2; try clear hcz3_0; try clear hcz3_1; try clear hfz3_0; try clear hfz3_1
  obtain ⟨x5_1, x1001_1, u1001, HA, HK1, HO_5, HO_1001, BK0, HK, HB⟩ := hrel
  cases gk with
  | zero => exact absurd HA.out (by simp [impl_Wheel_tick.l0])
  | succ k1 =>
   have H := HA.out; clear HA
   simp only [impl_Wheel_tick.l0] at H
   by_cases c4 : (x1001_1.length : Int) > 0
   ·rw [if_pos c4] at H
    have c4b0 : decide (0 < (x1001_1.length : Int)) = true := decide_eq_true c4
    have c4b1 : decide (0 < x1001_1.length) = true := decide_eq_true (by omega)
    clear c4; (try simp only [c4b0])
    by_cases c5 : 0 < (x1001_1.length : Int)
    ·rw [if_pos c5] at H
     have c5b0 : decide (0 < (x1001_1.length : Int)) = true := decide_eq_true c5
     have c5b1 : decide (0 < x1001_1.length) = true := decide_eq_true (by omega)
     clear c5; (try simp only [c5b0])
     by_cases c6 : ((rd_T133 x1001_1 0).f1) ≤ (wrap64 (a0_0 + a1))
     ·rw [if_pos c6] at H; have c6b0 : decide (((rd_T133 x1001_1 0).f1) ≤ (wrap64 (a0_0 + a1))) = true := decide_eq_true c6; clear c6; (try simp only [c6b0])
      by_cases c7 : x5_1.length < 17592186044416
      ·rw [if_pos c7] at H; have LMc7 := Aside0.mk c7; clear c7
       obtain ⟨y207, hy207⟩ : ∃ y_ : List Int, y_ = (x5_1 ++ [(rd_T133 x1001_1 0).f0]) := ⟨_, rfl⟩
       replace H : (if 1 ≤ (x1001_1.length : Int) then (impl_Wheel_tick.l0 k1 y207 (wrap64 (a0_0 + a1)) (x1001_1.drop (1 : Int).toNat)) else (none)) = some (r1, r2, r3) := by first | (rw [hy207]; with_reducible exact H) | (have H2_ := (Option.bind_some _ _).symm.trans H; rw [hy207]; with_reducible exact H2_) | (have H2_ := (Option.bind_some _ _).symm.trans H; with_reducible exact H2_) | with_reducible exact H | (rw [hy207]; exact H) | exact H
       have Ny207 := Aside0.mk hy207; clear hy207
       by_cases c8 : 1 ≤ (x1001_1.length : Int)
       ·rw [if_pos c8] at H
        have c8b0 := eq_true c8
        have c8b1 : decide (1 ≤ (x1001_1.length : Int)) = true := decide_eq_true c8
        clear c8
        obtain ⟨y210, hy210⟩ : ∃ y_ : List (S133), y_ = (x1001_1.drop (1 : Int).toNat) := ⟨_, rfl⟩
        replace H : (impl_Wheel_tick.l0 k1 y207 (wrap64 (a0_0 + a1)) y210) = some (r1, r2, r3) := by first | (rw [hy210]; with_reducible exact H) | (have H2_ := (Option.bind_some _ _).symm.trans H; rw [hy210]; with_reducible exact H2_) | (have H2_ := (Option.bind_some _ _).symm.trans H; with_reducible exact H2_) | with_reducible exact H | (rw [hy210]; exact H) | exact H
        have Ny210 := Aside0.mk hy210; clear hy210
        have H' := Aside0.mk H
        clear H; obtain ⟨hcz9_0, hcz9_1⟩ := blkz2 BK0.out; have hfz9_0 := blkf BK0.out
        obtain ⟨Ao10, co10, eo10, _⟩ := Kd.Q_slice HO_1001.out
        subst eo10
        have p205 : 0 ≤ (0 : Int) := (by omega)
        have q205 : 0 < (x1001_1.length : Int) := of_decide_eq_true (by first | (with_reducible assumption) | assumption)
        obtain ⟨ad205, e205, hx205_0, hx205_1⟩ := at_T133 (Kd.Q_reads' HO_1001.out).2.2 0 p205 q205
        cases e205
        have qi205 : (0 < x1001_1.length) = True := eq_true (by omega)
        (try rw [show ((0 : Int)).toNat = 0 from rfl] at hx205_0)
        (try rw [show 0 * 2 = 0 from rfl] at hx205_0)
        (try rw [Addr.add_zero'] at hx205_0)
        (try rw [show ((0 : Int)).toNat = 0 from rfl] at hx205_1)
        (try rw [show 0 * 2 = 0 from rfl] at hx205_1)
        (try rw [Addr.add_zero'] at hx205_1)
        replace p205 := eq_true p205
        replace q205 := eq_true q205
        have p206 : 0 ≤ (0 : Int) := (by omega)
        have q206 : 0 < (x1001_1.length : Int) := of_decide_eq_true (by first | (with_reducible assumption) | assumption)
        obtain ⟨ad206, e206, hx206_0, hx206_1⟩ := at_T133 (Kd.Q_reads' HO_1001.out).2.2 0 p206 q206
        obtain rfl : ad205 = ad206 := (by injection e206)
        have qi206 : (0 < x1001_1.length) = True := eq_true (by omega)
        (try rw [show ((0 : Int)).toNat = 0 from rfl] at hx206_0)
        (try rw [show 0 * 2 = 0 from rfl] at hx206_0)
        (try rw [Addr.add_zero'] at hx206_0)
        (try rw [show ((0 : Int)).toNat = 0 from rfl] at hx206_1)
        (try rw [show 0 * 2 = 0 from rfl] at hx206_1)
        (try rw [Addr.add_zero'] at hx206_1)
        replace p206 := eq_true p206
        replace q206 := eq_true q206
        go_wp2_with (first | ((with_reducible refine gate_builtin (b := .append) (xs := #[.tmp 34, .tmp 42]) rfl ?_); at_builtin; refine Kd.R_append (Kd.int .i64) (w0 := w0) w0.heap.size rfl (.tmp 34) (.tmp 42) 63 3 (.int .i64 0) 8 rfl Try.underlying63 info3 rfl (by decide) (by omega) u5 x5_1 ((rd_T133 x1001_1 0).f0) [.int .i64 ((rd_T133 x1001_1 0).f0)] (fun k_ => (P0_1_ k_ ∨ w.heap.size ≤ k_)) (fun _ => False) rfl rfl ?aP (fun _ hk => hk.elim) ?aF ?aO ?aB ?aS ?aL ?_; (case aP => exact rfl); (case aB => exact (by exact bel0)); (case aF => exact (fun k_ hk => (.inr (Nat.le_trans (by first | exact HK.out.1 | exact (show Kept w _ (fun k_ => (P0_1_ k_) ∨ k_ = g) from by exact kpt).1) hk)))); (case aO => exact (by exact Kd.R_nw HO_5.out)); (case aS => exact (below_size (by exact bel0))); (case aL => have := LMc7.out; omega); intro v208 w11 ho hb hg hat; rw [← Ny207.out] at ho; have n_ := an (Kd.Q_over' (by exact Kd.Q_nw HO_1001.out) (Kd.R_typed (by exact Kd.R_nw HO_5.out)) (by decide) hg) (an (blk_grown (blk_nw BK0.out) hg (Kd.R_ne HO_5.out BK0.out (by decide))) (an (hb) (an (Kept.of_grown (S := (fun k_ => (P0_1_ k_) ∨ k_ = g)) hg (by exact kpt) (fun k_ e_ => Or.imp_left Or.inl ((HO_5.out.1 k_ e_)))) (an (ho) (trivial))))); clear HO_1001 BK0 HB HK HO_5; obtain ⟨HO_1001, BK0, HB, HK, HO209, -⟩ := n_; clear ho hb hg hat; obtain ⟨hcz12_0, hcz12_1⟩ := blkz2 BK0.out; have hfz12_0 := blkf BK0.out; have q13 : (1 : Int) ≤ ((x1001_1.length : Int) : Int) := of_decide_eq_true (by first | (with_reducible assumption) | assumption); obtain ⟨i013, hi013, _, hsz13, _⟩ := info_parts info133; have hcut13 := cut_from (P := Try.prog) 52 133 .i64 Try.underlying52 hi013 2 hsz13 (some ad205) x1001_1.length co10 1 (by omega) q13; have hr13 := Kd.Q_drop (k := (1 : Int).toNat) HO_1001.out (by omega); obtain ⟨A13, hA13⟩ : ∃ A1, A1 = (if co10 = (1 : Int).toNat then (some ad205) else ((some ad205) : Option Addr).map (·.add ((1 : Int).toNat * 2))) := ⟨_, rfl⟩; obtain ⟨c13, hc13⟩ : ∃ c1, c1 = co10 - (1 : Int).toNat := ⟨_, rfl⟩; have hy13 : y210.length = x1001_1.length - (1 : Int).toNat := (by rw [Ny210.out, List.length_drop]); rw [← Ny210.out] at hr13; rw [← hy13, ← hA13, ← hc13] at hcut13; replace hr13 : Kd.Q k133 133 w11 w0.heap.size (fun k_ => (P0_1_ k_ ∨ w.heap.size ≤ k_)) (.slice A13 y210.length c13) y210 := (by rw [hA13, hc13, hy13]; exact hr13); have HE13 : Aside0 ((Value.slice A13 y210.length c13).ownBlock = (.slice (some ad205) x1001_1.length co10 : Value).ownBlock) := ⟨by rw [hA13]; split <;> (cases ((some ad205) : Option Addr) <;> rfl)⟩; clear hy13 hi013 hsz13 HO_1001 hA13 hc13; have HO212 := Aside0.mk hr13; clear hr13; replace q13 := eq_true q13))
        repeat (go_quiet (fail); try go_wp2_with (first | ((with_reducible refine gate_builtin (b := .append) (xs := #[.tmp 34, .tmp 42]) rfl ?_); at_builtin; refine Kd.R_append (Kd.int .i64) (w0 := w0) w0.heap.size rfl (.tmp 34) (.tmp 42) 63 3 (.int .i64 0) 8 rfl Try.underlying63 info3 rfl (by decide) (by omega) u5 x5_1 ((rd_T133 x1001_1 0).f0) [.int .i64 ((rd_T133 x1001_1 0).f0)] (fun k_ => (P0_1_ k_ ∨ w.heap.size ≤ k_)) (fun _ => False) rfl rfl ?aP (fun _ hk => hk.elim) ?aF ?aO ?aB ?aS ?aL ?_; (case aP => exact rfl); (case aB => exact (by exact bel0)); (case aF => exact (fun k_ hk => (.inr (Nat.le_trans (by first | exact HK.out.1 | exact (show Kept w _ (fun k_ => (P0_1_ k_) ∨ k_ = g) from by exact kpt).1) hk)))); (case aO => exact (by exact Kd.R_nw HO_5.out)); (case aS => exact (below_size (by exact bel0))); (case aL => have := LMc7.out; omega); intro v208 w11 ho hb hg hat; rw [← Ny207.out] at ho; have n_ := an (Kd.Q_over' (by exact Kd.Q_nw HO_1001.out) (Kd.R_typed (by exact Kd.R_nw HO_5.out)) (by decide) hg) (an (blk_grown (blk_nw BK0.out) hg (Kd.R_ne HO_5.out BK0.out (by decide))) (an (hb) (an (Kept.of_grown (S := (fun k_ => (P0_1_ k_) ∨ k_ = g)) hg (by exact kpt) (fun k_ e_ => Or.imp_left Or.inl ((HO_5.out.1 k_ e_)))) (an (ho) (trivial))))); clear HO_1001 BK0 HB HK HO_5; obtain ⟨HO_1001, BK0, HB, HK, HO209, -⟩ := n_; clear ho hb hg hat; obtain ⟨hcz12_0, hcz12_1⟩ := blkz2 BK0.out; have hfz12_0 := blkf BK0.out; have q13 : (1 : Int) ≤ ((x1001_1.length : Int) : Int) := of_decide_eq_true (by first | (with_reducible assumption) | assumption); obtain ⟨i013, hi013, _, hsz13, _⟩ := info_parts info133; have hcut13 := cut_from (P := Try.prog) 52 133 .i64 Try.underlying52 hi013 2 hsz13 (some ad205) x1001_1.length co10 1 (by omega) q13; have hr13 := Kd.Q_drop (k := (1 : Int).toNat) HO_1001.out (by omega); obtain ⟨A13, hA13⟩ : ∃ A1, A1 = (if co10 = (1 : Int).toNat then (some ad205) else ((some ad205) : Option Addr).map (·.add ((1 : Int).toNat * 2))) := ⟨_, rfl⟩; obtain ⟨c13, hc13⟩ : ∃ c1, c1 = co10 - (1 : Int).toNat := ⟨_, rfl⟩; have hy13 : y210.length = x1001_1.length - (1 : Int).toNat := (by rw [Ny210.out, List.length_drop]); rw [← Ny210.out] at hr13; rw [← hy13, ← hA13, ← hc13] at hcut13; replace hr13 : Kd.Q k133 133 w11 w0.heap.size (fun k_ => (P0_1_ k_ ∨ w.heap.size ≤ k_)) (.slice A13 y210.length c13) y210 := (by rw [hA13, hc13, hy13]; exact hr13); have HE13 : Aside0 ((Value.slice A13 y210.length c13).ownBlock = (.slice (some ad205) x1001_1.length co10 : Value).ownBlock) := ⟨by rw [hA13]; split <;> (cases ((some ad205) : Option Addr) <;> rfl)⟩; clear hy13 hi013 hsz13 HO_1001 hA13 hc13; have HO212 := Aside0.mk hr13; clear hr13; replace q13 := eq_true q13)))
        go_roundg k1
        case measure => have := HK1.out; omega
        case rel => exact ⟨(y207), (y210), (.slice A13 y210.length c13), H', ⟨by have := HK1.out; omega⟩, ⟨by exact (Kd.R_farN HO209.out BK0.out)⟩, ⟨by exact (Kd.Q_farN HO212.out BK0.out)⟩, ⟨by (with_reducible repeat (first | refine blk_drewN ?_ _ | refine blk_drew ?_ | refine blk_alloc ?_ _)); refine blk_put (cs := #[.int .i64 (wrap64 (a0_0 + a1)), .slice (some ad205) x1001_1.length co10]) ?_ 1 _ rfl; (with_reducible repeat (first | refine blk_drewN ?_ _ | refine blk_drew ?_ | refine blk_alloc ?_ _)); exact BK0.out⟩, ⟨by exact kpt⟩, ⟨by exact bel0⟩⟩
       ·rw [if_neg c8] at H
        exact absurd H (by simp)
      ·rw [if_neg c7] at H
       exact absurd H (by simp)
     ·rw [if_neg c6] at H; have c6b0 : decide (((rd_T133 x1001_1 0).f1) ≤ (wrap64 (a0_0 + a1))) = false := decide_eq_false c6; clear c6; (try simp only [c6b0]); simp only [Option.some.injEq, Prod.mk.injEq] at H; obtain ⟨rfl, rfl, rfl⟩ := H; obtain ⟨hcz14_0, hcz14_1⟩ := blkz2 BK0.out; have hfz14_0 := blkf BK0.out
      obtain ⟨Ao15, co15, eo15, _⟩ := Kd.Q_slice HO_1001.out
      subst eo15
      have p205 : 0 ≤ (0 : Int) := (by omega)
      have q205 : 0 < (x1001_1.length : Int) := of_decide_eq_true (by first | (with_reducible assumption) | assumption)
      obtain ⟨ad205, e205, hx205_0, hx205_1⟩ := at_T133 (Kd.Q_reads' HO_1001.out).2.2 0 p205 q205
      cases e205
      have qi205 : (0 < x1001_1.length) = True := eq_true (by omega)
      (try rw [show ((0 : Int)).toNat = 0 from rfl] at hx205_0)
      (try rw [show 0 * 2 = 0 from rfl] at hx205_0)
      (try rw [Addr.add_zero'] at hx205_0)
      (try rw [show ((0 : Int)).toNat = 0 from rfl] at hx205_1)
      (try rw [show 0 * 2 = 0 from rfl] at hx205_1)
      (try rw [Addr.add_zero'] at hx205_1)
      replace p205 := eq_true p205
      replace q205 := eq_true q205
      go_wp2
      repeat (go_quiet (fail); try go_wp2)
      go_ret
      exact ⟨_, by first | rfl | (simp [errW_none, errW_some] <;> rfl) | (simp [*, errW_none, errW_some] <;> rfl), (.slice (some ad205) x1001_1.length co15), by exact Kd.R_nw HO_5.out, by exact Kd.Q_nw HO_1001.out, by exact blk_nw BK0.out, by exact bel0, by exact kpt⟩
    ·rw [if_neg c5] at H
     exact absurd H (by simp)
   ·rw [if_neg c4] at H
    have c4b0 : decide (0 < (x1001_1.length : Int)) = false := decide_eq_false c4
    have c4b1 : decide (0 < x1001_1.length) = false := decide_eq_false (by omega)
    clear c4; (try simp only [c4b0]); simp only [Option.some.injEq, Prod.mk.injEq] at H; obtain ⟨rfl, rfl, rfl⟩ := H; obtain ⟨hcz16_0, hcz16_1⟩ := blkz2 BK0.out; have hfz16_0 := blkf BK0.out
    obtain ⟨Ao17, co17, eo17, _⟩ := Kd.Q_slice HO_1001.out
    subst eo17
    go_wp2
    repeat (go_quiet (fail); try go_wp2)
    go_ret
    exact ⟨_, by first | rfl | (simp [errW_none, errW_some] <;> rfl) | (simp [*, errW_none, errW_some] <;> rfl), (.slice Ao17 x1001_1.length co17), by exact Kd.R_nw HO_5.out, by exact Kd.Q_nw HO_1001.out, by exact blk_nw BK0.out, by exact bel0, by exact kpt⟩

/-! ### impl_WheelTick: function 42 -/
def impl_WheelTick.f (k : Nat) (a0_0 : Int) (l0_1 : List (S133)) (a1 : Int) : Option (Int × (List (S133)) × List Int) := (impl_WheelOk.f k a0_0 l0_1).bind fun t215 => (if t215 = true then ((impl_Wheel_own.f a0_0 l0_1).bind fun bt216 => ((impl_within.f a1 0 (wrap64 (1000000 - a0_0))).bind fun t221 => (if t221 = true then ((impl_Wheel_tick.f k bt216.1 bt216.2 a1).bind fun bt222 => (some (bt222.2.1, bt222.2.2, bt222.1))) else (some (bt216.1, bt216.2, ([] : List Int)))))) else (some (0, ([] : List (S133)), ([] : List Int))))
theorem impl_WheelTick.mono : ∀ a0 a1 a2 k, LeO (impl_WheelTick.f k a0 a1 a2) (impl_WheelTick.f (k + 1) a0 a1 a2) := by
 intro a0 a1 a2 k
 unfold impl_WheelTick.f
 repeat' first
   | (with_reducible exact impl_WheelOk.mono _ _ _)
   | (with_reducible exact impl_Wheel_tick.mono _ _ _ _)
   | (with_reducible exact LeO.refl _)
   | (with_reducible exact LeO.none _)
   | (with_reducible refine LeO.ite ?_ ?_)
   | (with_reducible refine LeO.bind ?_ (fun _ => ?_))
   | exact impl_WheelOk.mono _ _ _
   | exact impl_Wheel_tick.mono _ _ _ _
   | exact LeO.none _
   | refine LeO.ite ?_ ?_
   | refine LeO.bind ?_ (fun _ => ?_)
set_option maxHeartbeats 8000000 in
set_option maxRecDepth 100000 in
theorem impl_WheelTick.calls (k : Nat) (a0_0 : Int) (A0_1 : Option Addr) (c0_1 : Nat) (l0_1 : List (S133)) (a1 : Int) (r1 : Int) (r2 : List (S133)) (r3 : List Int) (w : World) (hr0_1 : Kd.C k133 w A0_1 l0_1.length l0_1) (hc0_1 : l0_1.length ≤ c0_1) (h : impl_WheelTick.f k a0_0 l0_1 a1 = some (r1, r2, r3)) :
  Calls Try.prog 42 #[.agg #[.int .i64 a0_0, .slice A0_1 l0_1.length c0_1], .int .i64 a1] w fun e w' => ∃ v1_ v2_ : Value, e = .returned (.tuple #[.agg #[.int .i64 r1, v1_], v2_]) ∧ Kd.Q k133 133 w' w.heap.size (fun _ => True) v1_ r2 ∧ Kd.R (Kd.int .i64) 3 w' w.heap.size (fun _ => True) v2_ r3 ∧ Below w.heap.size w w' := by
 have hu54 := Try.underlying54
 have HR0_1 := Aside0.mk hr0_1; have HC0_1 := Aside0.mk hc0_1; clear hr0_1 hc0_1
 have HB := Aside0.mk (Below.refl w.heap.size w)
 have H : ((impl_WheelOk.f k a0_0 l0_1).bind fun t215 => (if t215 = true then ((impl_Wheel_own.f a0_0 l0_1).bind fun bt216 => ((impl_within.f a1 0 (wrap64 (1000000 - a0_0))).bind fun t221 => (if t221 = true then ((impl_Wheel_tick.f k bt216.1 bt216.2 a1).bind fun bt222 => (some (bt222.2.1, bt222.2.2, bt222.1))) else (some (bt216.1, bt216.2, ([] : List Int)))))) else (some (0, ([] : List (S133)), ([] : List Int))))) = some (r1, r2, r3) := h
 clear h; replace H := Option.bind_eq_some_iff.mp H; obtain ⟨t215, A30, H⟩ := H; have A3 := Aside0.mk A30; clear A30; go_enter Try.func42, Try.ntmps42
 replace H := Aside0.mk H
 go_wp2_with (first | ((with_reducible refine gate_dst (N := 2) rfl ?_); refine box_event ?hg (N := 2) ?hd (cs := #[.int .i64 a0_0, .slice A0_1 l0_1.length c0_1]) (t := 54) ?hr ?_; (case hd => rfl); (case hg => rfl); (case hr => first | (go_simp; done) | (go_simp; rfl)); intro gb213 hg w4 hbox hb; have n_ := an (below_step (by exact bel0) hb) (an (hbox) (an ((by rw [hg]; exact (below_size (by exact bel0)) : w.heap.size ≤ gb213)) (an ((by rw [hg]; exact (below_size (by exact bel0)) : w.heap.size ≤ gb213)) (trivial)))); clear HB; obtain ⟨HB, BK213, GW213, GE213, -⟩ := n_; clear hb hbox hg) | ((with_reducible refine gate_dst (N := 4) rfl ?_); refine box_event ?hg (N := 4) ?hd (cs := #[.int .i64 0, .slice none 0 0]) (t := 54) ?hr ?_; (case hd => rfl); (case hg => rfl); (case hr => first | (go_simp; done) | (go_simp; rfl)); intro gb214 hg w5 hbox hb; have n_ := an (blk_below (blk_nw BK213.out) hb) (an (below_step (by exact bel0) hb) (an (hbox) (an ((by rw [hg]; exact (below_size (by exact bel0)) : w.heap.size ≤ gb214)) (an ((by rw [hg]; exact (below_size (by exact bel0)) : w.heap.size ≤ gb214)) (an ((by rw [hg]; exact Nat.ne_of_lt (blk_lt (blk_nw BK213.out)) : gb213 ≠ gb214)) (an ((by rw [hg]; exact Nat.ne_of_gt (blk_lt (blk_nw BK213.out)) : gb214 ≠ gb213)) (trivial))))))); clear BK213 HB; obtain ⟨BK213, HB, BK214, GW214, GE214, NB213_214, NB214_213, -⟩ := n_; clear hb hbox hg; have hnb6 := NB213_214.out; have hnc6 := NB214_213.out; obtain ⟨hcz7_0, hcz7_1⟩ := blkz2 BK213.out; have hfz7_0 := blkf BK213.out) | ((with_reducible refine gate_callee (f := 92) rfl ?_); refine goesL_ (some 9) rfl rfl Try.func92 (by kernel_rfl) rfl #[.agg #[.int .i64 a0_0, .slice A0_1 l0_1.length c0_1]] rfl (by (try simp only [List.map_toArray, List.map_cons, List.map_nil]); first | done | rfl | (simp only [List.length_drop, List.length_take]; rfl)) ?_; (with_reducible refine (impl_WheelOk.calls k a0_0 _ _ l0_1 t215 _ ?side1 ?side2 A3.out).mono ?_); (case side1 => repeat (first | exact (Kd.C_below HR0_1.out HB.out) | (with_reducible refine Kd.C_alloc ?_ _) | (with_reducible refine Kd.C_drewN ?_ _) | (with_reducible refine Kd.C_drew ?_))); (case side2 => exact HC0_1.out); rintro e w8 ⟨rfl, hb⟩; refine ⟨_, rfl, ?_⟩; have n_ := an (blk_below (blk_nw BK213.out) hb) (an (blk_below (blk_nw BK214.out) hb) (an (below_step (by exact bel0) hb) (trivial))); clear BK213 BK214 HB; obtain ⟨BK213, BK214, HB, -⟩ := n_; (try clear hb); (try clear hb2); (try clear hk); (try clear hi); refine Stop.out ?_))
 refine Stop.mk ?_
 replace H := H.out
 by_cases c9 : t215 = true
 ·subst c9; rw [if_pos rfl] at H; replace H := Option.bind_eq_some_iff.mp H
  obtain ⟨⟨t216, t217⟩, A100, H⟩ := H
  replace H : ((impl_within.f a1 0 (wrap64 (1000000 - a0_0))).bind fun t221 => (if t221 = true then ((impl_Wheel_tick.f k t216 t217 a1).bind fun bt222 => (some (bt222.2.1, bt222.2.2, bt222.1))) else (some (t216, t217, ([] : List Int))))) = some (r1, r2, r3) := H
  have A10 := Aside0.mk A100; clear A100; replace H := Option.bind_eq_some_iff.mp H; obtain ⟨t221, A110, H⟩ := H; have A11 := Aside0.mk A110; clear A110; have hnb12 := NB213_214.out; have hnc12 := NB214_213.out; obtain ⟨hcz13_0, hcz13_1⟩ := blkz2 BK213.out; have hfz13_0 := blkf BK213.out
  replace H := Aside0.mk H
  go_wp2_with (first | ((with_reducible refine gate_callee (f := 93) rfl ?_); refine goesL_ (some 13) rfl rfl Try.func93 (by kernel_rfl) rfl #[.agg #[.int .i64 a0_0, .slice A0_1 l0_1.length c0_1]] rfl (by (try simp only [List.map_toArray, List.map_cons, List.map_nil]); first | done | rfl | (simp only [List.length_drop, List.length_take]; rfl)) ?_; (with_reducible refine (impl_Wheel_own.calls a0_0 _ _ l0_1 t216 t217 _ ?side1 ?side2 A10.out).mono ?_); (case side1 => repeat (first | exact (Kd.C_below HR0_1.out HB.out) | (with_reducible refine Kd.C_alloc ?_ _) | (with_reducible refine Kd.C_drewN ?_ _) | (with_reducible refine Kd.C_drew ?_))); (case side2 => exact HC0_1.out); rintro e w14 ⟨v218, rfl, ho0, hb⟩; refine ⟨_, rfl, ?_⟩; have n_ := an (Kd.R_lower ho0 (below_size (by exact bel0))) (an (blk_below (blk_nw BK213.out) hb) (an (blk_below (blk_nw BK214.out) hb) (an (below_step (by exact bel0) hb) (trivial)))); clear BK213 BK214 HB; obtain ⟨HO219, BK213, BK214, HB, -⟩ := n_; (try clear hb); (try clear hb2); (try clear hk); (try clear hi); (try clear ho0)) | ((with_reducible refine gate_dst (N := 6) rfl ?_); refine box_event ?hg (N := 6) ?hd (cs := #[.int .i64 0, .slice none 0 0]) (t := 54) ?hr ?_; (case hd => rfl); (case hg => rfl); (case hr => first | (go_simp; done) | (go_simp; rfl)); intro gb220 hg w15 hbox hb; have n_ := an (Kd.R_below (by exact Kd.R_nw HO219.out) hb) (an (blk_below (blk_nw BK213.out) hb) (an (blk_below (blk_nw BK214.out) hb) (an (below_step (by exact bel0) hb) (an (hbox) (an ((by rw [hg]; exact (below_size (by exact bel0)) : w.heap.size ≤ gb220)) (an ((by rw [hg]; exact (below_size (by exact bel0)) : w.heap.size ≤ gb220)) (an ((by rw [hg]; exact Nat.ne_of_lt (blk_lt (blk_nw BK213.out)) : gb213 ≠ gb220)) (an ((by rw [hg]; exact Nat.ne_of_gt (blk_lt (blk_nw BK213.out)) : gb220 ≠ gb213)) (an ((by rw [hg]; exact Nat.ne_of_lt (blk_lt (blk_nw BK214.out)) : gb214 ≠ gb220)) (an ((by rw [hg]; exact Nat.ne_of_gt (blk_lt (blk_nw BK214.out)) : gb220 ≠ gb214)) (trivial))))))))))); clear HO219 BK213 BK214 HB; obtain ⟨HO219, BK213, BK214, HB, BK220, GW220, GE220, NB213_220, NB220_213, NB214_220, NB220_214, -⟩ := n_; clear hb hbox hg; have hnb16 := NB220_213.out; have hnc16 := NB213_220.out; have hnb17 := NB220_214.out; have hnc17 := NB214_220.out; obtain ⟨hcz18_0, hcz18_1⟩ := blkz2 BK220.out; have hfz18_0 := blkf BK220.out; obtain ⟨Ao19, co19, eo19⟩ := Kd.R_slice HO219.out; subst eo19) | ((with_reducible refine gate_store (t := 54) (p := 6) rfl ?_); refine store_event (t := 54) (p := 6) (v := ?vo_w20) (w1 := ((w15.setCell ⟨gb220, 0, none⟩ (.int .i64 t216)).setCell ⟨gb220, 1, none⟩ (.slice Ao19 t217.length co19))) ?hg ?ho ?hn ?hr ?_; (case ho => rfl); (case hg => rfl); (case hn => rfl); (case hr => first | (go_simp; done) | (go_simp; rfl)); intro w20 hw; have n0_ : Aside0 (Kd.R k133 133 w20 w.heap.size (fun _ => True) (.slice Ao19 t217.length co19) t217) := ⟨(by rw [hw]; exact (by exact (Kd.R_farN HO219.out BK220.out)))⟩; have n1_ : Aside0 (w20.heap[gb213]? = some (.cells #[.int .i64 a0_0, .slice A0_1 l0_1.length c0_1] 54 (0, 0))) := ⟨(by rw [hw]; exact (by exact blk_kb BK213.out NB213_220.out))⟩; have n2_ : Aside0 (w20.heap[gb214]? = some (.cells #[.int .i64 0, .slice none 0 0] 54 (0, 0))) := ⟨(by rw [hw]; exact (by exact blk_kb BK214.out NB214_220.out))⟩; have n3_ : Aside0 (w20.heap[gb220]? = some (.cells #[.int .i64 t216, .slice Ao19 t217.length co19] 54 (0, 0))) := ⟨(by rw [hw]; exact (by (with_reducible repeat (first | refine blk_drewN ?_ _ | refine blk_drew ?_ | refine blk_alloc ?_ _)); exact blk_fill2 BK220.out))⟩; have n4_ : Aside0 (Below w.heap.size w w20) := ⟨(by rw [hw]; exact (by exact bel0))⟩; clear hw; clear HO219; clear BK213; clear BK214; clear BK220; clear HB; have HO219 := n0_; have BK213 := n1_; have BK214 := n2_; have BK220 := n3_; have HB := n4_; clear n0_ n1_ n2_ n3_ n4_; obtain ⟨hcz21_0, hcz21_1⟩ := blkz2 BK213.out; have hfz21_0 := blkf BK213.out) | ((with_reducible refine gate_callee (f := 72) rfl ?_); refine goesL_ (some 18) rfl rfl Try.func72 (by kernel_rfl) rfl #[.int .i64 a1, .int .i64 0, .int .i64 (wrap64 (1000000 - a0_0))] rfl (by (try simp only [List.map_toArray, List.map_cons, List.map_nil]); first | done | rfl | (simp only [List.length_drop, List.length_take]; rfl)) ?_; (with_reducible refine (impl_within.calls a1 0 (wrap64 (1000000 - a0_0)) t221 _ A11.out).mono ?_); rintro e w' ⟨rfl, ⟨nd, rfl⟩⟩; refine ⟨_, rfl, ?_⟩; (try (rw [drewN_self w20]; generalize hq_ : World.drewN w20 _ = w20; have n0_ : Aside0 (Kd.R k133 133 w20 w.heap.size (fun _ => True) (.slice Ao19 t217.length co19) t217) := ⟨by rw [← hq_]; exact (by exact Kd.R_nw HO219.out)⟩; have n1_ : Aside0 (w20.heap[gb213]? = some (.cells #[.int .i64 a0_0, .slice A0_1 l0_1.length c0_1] 54 (0, 0))) := ⟨by rw [← hq_]; exact (by exact blk_nw BK213.out)⟩; have n2_ : Aside0 (w20.heap[gb214]? = some (.cells #[.int .i64 0, .slice none 0 0] 54 (0, 0))) := ⟨by rw [← hq_]; exact (by exact blk_nw BK214.out)⟩; have n3_ : Aside0 (w20.heap[gb220]? = some (.cells #[.int .i64 t216, .slice Ao19 t217.length co19] 54 (0, 0))) := ⟨by rw [← hq_]; exact (by exact blk_nw BK220.out)⟩; have n4_ : Aside0 (Below w.heap.size w w20) := ⟨by rw [← hq_]; exact (by exact bel0)⟩; clear HO219 BK213 BK214 BK220 HB hq_; have HO219 := n0_; have BK213 := n1_; have BK214 := n2_; have BK220 := n3_; have HB := n4_; clear n0_ n1_ n2_ n3_ n4_)); refine Stop.out ?_))
  refine Stop.mk ?_
  replace H := H.out
  by_cases c22 : t221 = true
  ·subst c22; rw [if_pos rfl] at H; replace H := Option.bind_eq_some_iff.mp H
   obtain ⟨⟨t222, t225, t226⟩, A230, H⟩ := H
   replace H : (some (t225, t226, t222)) = some (r1, r2, r3) := H
   have A23 := Aside0.mk A230; clear A230; simp only [Option.some.injEq, Prod.mk.injEq] at H; obtain ⟨rfl, rfl, rfl⟩ := H
   go_wp2_with (first | ((with_reducible refine gate_callee (f := 100) rfl ?_); refine goesL_ (some 22) rfl rfl Try.func100 (by kernel_rfl) rfl #[.pointer (some ⟨gb220, 0, none⟩), .int .i64 a1] rfl (by (try simp only [List.map_toArray, List.map_cons, List.map_nil]); first | done | rfl | (simp only [List.length_drop, List.length_take]; rfl)) ?_; (with_reducible refine (impl_Wheel_tick.calls k gb220 t216 (fun k_ => some k_ = (.slice Ao19 t217.length co19 : Value).ownBlock) (.slice Ao19 t217.length co19) t217 a1 t222 t225 t226 w _ ?side1 ?side2 ?side3 ?side4 A23.out).mono ?_); (case side1 => exact bel0); (case side2 => exact blk_nw BK220.out); (case side3 => exact GE220.out); (case side4 => exact Kd.R_tight rfl HO219.out); rintro e w24 ⟨v223, rfl, v227, ho0, ho1, hi, hb, hkp⟩; refine ⟨_, rfl, ?_⟩; have n_ := an (blk_kept (by exact blk_nw BK213.out) hkp (fun hs_ => Or.elim hs_ (fun hs_ => (fun e_ => (Kd.R_ne HO219.out BK213.out (by decide)) e_) hs_) (fun e_ => NB213_220.out e_))) (an (blk_kept (by exact blk_nw BK214.out) hkp (fun hs_ => Or.elim hs_ (fun hs_ => (fun e_ => (Kd.R_ne HO219.out BK214.out (by decide)) e_) hs_) (fun e_ => NB214_220.out e_))) (an (hi) (an (Kd.R_mono (ok' := fun k_ => True) ho0 (fun k_ hk_ => trivial)) (an (Kd.Q_mono (ok' := fun k_ => True) ho1 (fun k_ hk_ => trivial)) (an (hb) (trivial)))))); clear BK213 BK214 BK220 HB HO219; obtain ⟨BK213, BK214, BK220, HO224, HO228, HB, -⟩ := n_; (try clear hb); (try clear hkp); (try clear ho0); (try clear ho1); have hnb25 := NB220_213.out; have hnc25 := NB213_220.out; have hnb26 := NB220_214.out; have hnc26 := NB214_220.out; obtain ⟨hcz27_0, hcz27_1⟩ := blkz2 BK220.out; have hfz27_0 := blkf BK220.out; have hnb28 := NB214_213.out; have hnc28 := NB213_214.out; obtain ⟨hcz29_0, hcz29_1⟩ := blkz2 BK214.out; have hfz29_0 := blkf BK214.out; obtain ⟨Ao30, co30, eo30, _⟩ := Kd.Q_slice HO228.out; subst eo30) | ((with_reducible refine gate_store (t := 54) (p := 4) rfl ?_); refine store_event (t := 54) (p := 4) (v := ?vo_w31) (w1 := ((w24.setCell ⟨gb214, 0, none⟩ (.int .i64 t225)).setCell ⟨gb214, 1, none⟩ (.slice Ao30 t226.length co30))) ?hg ?ho ?hn ?hr ?_; (case ho => rfl); (case hg => rfl); (case hn => rfl); (case hr => first | (go_simp; done) | (go_simp; rfl)); intro w31 hw; have n0_ : Aside0 (Kd.R (Kd.int .i64) 3 w31 w.heap.size (fun _ => True) v223 t222) := ⟨(by rw [hw]; exact (by exact (Kd.R_farN HO224.out BK214.out)))⟩; have n1_ : Aside0 (Kd.Q k133 133 w31 w.heap.size (fun _ => True) (.slice Ao30 t226.length co30) t226) := ⟨(by rw [hw]; exact (by exact (Kd.Q_farN HO228.out BK214.out)))⟩; have n2_ : Aside0 (w31.heap[gb213]? = some (.cells #[.int .i64 a0_0, .slice A0_1 l0_1.length c0_1] 54 (0, 0))) := ⟨(by rw [hw]; exact (by exact blk_kb BK213.out NB213_214.out))⟩; have n3_ : Aside0 (w31.heap[gb214]? = some (.cells #[.int .i64 t225, .slice Ao30 t226.length co30] 54 (0, 0))) := ⟨(by rw [hw]; exact (by (with_reducible repeat (first | refine blk_drewN ?_ _ | refine blk_drew ?_ | refine blk_alloc ?_ _)); exact blk_fill2 BK214.out))⟩; have n4_ : Aside0 (w31.heap[gb220]? = some (.cells #[.int .i64 t225, .slice Ao30 t226.length co30] 54 (0, 0))) := ⟨(by rw [hw]; exact (by exact blk_kb BK220.out NB220_214.out))⟩; have n5_ : Aside0 (Below w.heap.size w w31) := ⟨(by rw [hw]; exact (by exact bel0))⟩; clear hw; clear HO224; clear HO228; clear BK213; clear BK214; clear BK220; clear HB; have HO224 := n0_; have HO228 := n1_; have BK213 := n2_; have BK214 := n3_; have BK220 := n4_; have HB := n5_; clear n0_ n1_ n2_ n3_ n4_ n5_))
   refine bodyPost_ret (results_ct rfl _ _ gb214 54 #[.int .i64 t225, .slice Ao30 t226.length co30] (0, 0) _ rfl (by exact blk_nw BK214.out) Try.underlying54 rfl (by kernel_rfl)) rfl ?_
   exact ⟨_, _, by first | rfl | (simp [errW_none, errW_some] <;> rfl) | (simp [*, errW_none, errW_some] <;> rfl), by exact Kd.Q_nw HO228.out, by exact Kd.R_nw HO224.out, by exact bel0⟩
  ·replace c22 := Bool.eq_false_iff.mpr c22
   subst c22
   rw [if_neg (show ¬ (false = true) by decide)] at H
   simp only [Option.some.injEq, Prod.mk.injEq] at H; obtain ⟨rfl, rfl, rfl⟩ := H; have hnb32 := NB220_213.out; have hnc32 := NB213_220.out; have hnb33 := NB220_214.out; have hnc33 := NB214_220.out; obtain ⟨hcz34_0, hcz34_1⟩ := blkz2 BK220.out; have hfz34_0 := blkf BK220.out; have hnb35 := NB214_213.out; have hnc35 := NB213_214.out; obtain ⟨hcz36_0, hcz36_1⟩ := blkz2 BK214.out; have hfz36_0 := blkf BK214.out
   go_wp2_with (first | ((with_reducible refine gate_store (t := 54) (p := 4) rfl ?_); refine store_event (t := 54) (p := 4) (v := ?vo_w37) (w1 := ((w20.setCell ⟨gb214, 0, none⟩ (.int .i64 t216)).setCell ⟨gb214, 1, none⟩ (.slice Ao19 t217.length co19))) ?hg ?ho ?hn ?hr ?_; (case ho => rfl); (case hg => rfl); (case hn => rfl); (case hr => first | (go_simp; done) | (go_simp; rfl)); intro w37 hw; have n0_ : Aside0 (Kd.R k133 133 w37 w.heap.size (fun _ => True) (.slice Ao19 t217.length co19) t217) := ⟨(by rw [hw]; exact (by exact (Kd.R_farN HO219.out BK214.out)))⟩; have n1_ : Aside0 (w37.heap[gb213]? = some (.cells #[.int .i64 a0_0, .slice A0_1 l0_1.length c0_1] 54 (0, 0))) := ⟨(by rw [hw]; exact (by exact blk_kb BK213.out NB213_214.out))⟩; have n2_ : Aside0 (w37.heap[gb214]? = some (.cells #[.int .i64 t216, .slice Ao19 t217.length co19] 54 (0, 0))) := ⟨(by rw [hw]; exact (by (with_reducible repeat (first | refine blk_drewN ?_ _ | refine blk_drew ?_ | refine blk_alloc ?_ _)); exact blk_fill2 BK214.out))⟩; have n3_ : Aside0 (w37.heap[gb220]? = some (.cells #[.int .i64 t216, .slice Ao19 t217.length co19] 54 (0, 0))) := ⟨(by rw [hw]; exact (by exact blk_kb BK220.out NB220_214.out))⟩; have n4_ : Aside0 (Below w.heap.size w w37) := ⟨(by rw [hw]; exact (by exact bel0))⟩; clear hw; clear HO219; clear BK213; clear BK214; clear BK220; clear HB; have HO219 := n0_; have BK213 := n1_; have BK214 := n2_; have BK220 := n3_; have HB := n4_; clear n0_ n1_ n2_ n3_ n4_))
   refine bodyPost_ret (results_ct rfl _ _ gb214 54 #[.int .i64 t216, .slice Ao19 t217.length co19] (0, 0) _ rfl (by exact blk_nw BK214.out) Try.underlying54 rfl (by kernel_rfl)) rfl ?_
   exact ⟨_, _, by first | rfl | (simp [errW_none, errW_some] <;> rfl) | (simp [*, errW_none, errW_some] <;> rfl), Kd.Q_of_R (by exact Kd.R_nw HO219.out), by first | exact Kd.R_nil _ _ _ _ _ | exact Kd.N_nil _ _ _ _ _ | exact Kd.V_nil _ _ _ _ _ | exact Kd.Q_nil _ _ _ _ _ | exact Kd.S_nil _ _ _ _ _, by exact bel0⟩
 ·replace c9 := Bool.eq_false_iff.mpr c9
  subst c9
  rw [if_neg (show ¬ (false = true) by decide)] at H
  simp only [Option.some.injEq, Prod.mk.injEq] at H; obtain ⟨rfl, rfl, rfl⟩ := H; have hnb38 := NB214_213.out; have hnc38 := NB213_214.out; obtain ⟨hcz39_0, hcz39_1⟩ := blkz2 BK214.out; have hfz39_0 := blkf BK214.out
  go_wp2_with (first | ((with_reducible refine gate_store (t := 54) (p := 4) rfl ?_); refine store_event (t := 54) (p := 4) (v := ?vo_w40) (w1 := ((w8.setCell ⟨gb214, 0, none⟩ (.int .i64 0)).setCell ⟨gb214, 1, none⟩ (.slice none 0 0))) ?hg ?ho ?hn ?hr ?_; (case ho => rfl); (case hg => rfl); (case hn => rfl); (case hr => first | (go_simp; done) | (go_simp; rfl)); intro w40 hw; have n0_ : Aside0 (w40.heap[gb213]? = some (.cells #[.int .i64 a0_0, .slice A0_1 l0_1.length c0_1] 54 (0, 0))) := ⟨(by rw [hw]; exact (by exact blk_kb BK213.out NB213_214.out))⟩; have n1_ : Aside0 (w40.heap[gb214]? = some (.cells #[.int .i64 0, .slice none 0 0] 54 (0, 0))) := ⟨(by rw [hw]; exact (by (with_reducible repeat (first | refine blk_drewN ?_ _ | refine blk_drew ?_ | refine blk_alloc ?_ _)); exact blk_fill2 BK214.out))⟩; have n2_ : Aside0 (Below w.heap.size w w40) := ⟨(by rw [hw]; exact (by exact bel0))⟩; clear hw; clear BK213; clear BK214; clear HB; have BK213 := n0_; have BK214 := n1_; have HB := n2_; clear n0_ n1_ n2_))
  refine bodyPost_ret (results_ct rfl _ _ gb214 54 #[.int .i64 0, .slice none 0 0] (0, 0) _ rfl (by exact blk_nw BK214.out) Try.underlying54 rfl (by kernel_rfl)) rfl ?_
  exact ⟨_, _, by first | rfl | (simp [errW_none, errW_some] <;> rfl) | (simp [*, errW_none, errW_some] <;> rfl), Kd.Q_of_R (by first | exact Kd.R_nil _ _ _ _ _ | exact Kd.N_nil _ _ _ _ _ | exact Kd.V_nil _ _ _ _ _ | exact Kd.Q_nil _ _ _ _ _ | exact Kd.S_nil _ _ _ _ _), by first | exact Kd.R_nil _ _ _ _ _ | exact Kd.N_nil _ _ _ _ _ | exact Kd.V_nil _ _ _ _ _ | exact Kd.Q_nil _ _ _ _ _ | exact Kd.S_nil _ _ _ _ _, by exact bel0⟩

/-! ### laws_eqIntS: function 43 -/
def laws_eqIntS.l0 : Nat → List Int → List Int → Int → Option (Bool)
  | 0, _, _, _ => none
  | k + 1, x0, x1, x5 => if x5 < (x0.length : Int) then (if 0 ≤ x5 then (if x5 < (x1.length : Int) then (if (rd x0 x5) = (rd x1 x5) then (laws_eqIntS.l0 k x0 x1 (wrap64 (x5 + 1))) else (some false)) else (none)) else (none)) else (some true)
def laws_eqIntS.f (k : Nat) (l0 : List Int) (l1 : List Int) : Option (Bool) := if (l0.length : Int) = (l1.length : Int) then (laws_eqIntS.l0 k l0 l1 0) else (some false)
theorem laws_eqIntS.mono_l : ∀ k, (∀ y0 y1 y2, LeO (laws_eqIntS.l0 k y0 y1 y2) (laws_eqIntS.l0 (k + 1) y0 y1 y2))
 | 0 => fun _ _ _ r h => by simp [laws_eqIntS.l0] at h
 | k + 1 => by
  have ih0 := laws_eqIntS.mono_l k
  ·intro y0 y1 y2
   unfold laws_eqIntS.l0
   repeat' first
   | (with_reducible exact ih0 _ _ _)
   | (with_reducible exact LeO.refl _)
   | (with_reducible exact LeO.none _)
   | (with_reducible refine LeO.ite ?_ ?_)
   | (with_reducible refine LeO.bind ?_ (fun _ => ?_))
   | exact ih0 _ _ _
   | exact LeO.none _
   | refine LeO.ite ?_ ?_
   | refine LeO.bind ?_ (fun _ => ?_)
theorem laws_eqIntS.mono : ∀ a0 a1 k, LeO (laws_eqIntS.f k a0 a1) (laws_eqIntS.f (k + 1) a0 a1) := by
 intro a0 a1 k
 have ih0 := laws_eqIntS.mono_l k
 unfold laws_eqIntS.f
 repeat' first
   | (with_reducible exact ih0 _ _ _)
   | (with_reducible exact LeO.refl _)
   | (with_reducible exact LeO.none _)
   | (with_reducible refine LeO.ite ?_ ?_)
   | (with_reducible refine LeO.bind ?_ (fun _ => ?_))
   | exact ih0 _ _ _
   | exact LeO.none _
   | refine LeO.ite ?_ ?_
   | refine LeO.bind ?_ (fun _ => ?_)
set_option maxHeartbeats 8000000 in
set_option maxRecDepth 100000 in
theorem laws_eqIntS.calls (k : Nat) (A0 : Option Addr) (c0 : Nat) (l0 : List Int) (A1 : Option Addr) (c1 : Nat) (l1 : List Int) (r : Bool) (w : World) (hr0 : Kd.C (Kd.int .i64) w A0 l0.length l0) (hc0 : l0.length ≤ c0) (hr1 : Kd.C (Kd.int .i64) w A1 l1.length l1) (hc1 : l1.length ≤ c1) (h : laws_eqIntS.f k l0 l1 = some r) :
  Calls Try.prog 43 #[.slice A0 l0.length c0, .slice A1 l1.length c1] w fun e w' => e = .returned (.bool r) ∧ Drawn0 w w' := by
 have HR0 := Aside0.mk hr0; have HC0 := Aside0.mk hc0; clear hr0 hc0; have HR1 := Aside0.mk hr1; have HC1 := Aside0.mk hc1; clear hr1 hc1
 have H : (if (l0.length : Int) = (l1.length : Int) then (laws_eqIntS.l0 k l0 l1 0) else (some false)) = some r := h
 clear h
 by_cases c3 : (l0.length : Int) = (l1.length : Int)
 ·rw [if_pos c3] at H
  have c3b0 : ((l0.length : Int) == (l1.length : Int)) = true := beq_iff_eq.mpr c3
  have c3b1 : ((l0.length : Int) != (l1.length : Int)) = false := bne_eq_false_iff_eq.mpr c3
  have c3b2 : (l0.length == l1.length) = true := by first | simpa using c3 | (simp at c3 ⊢; omega)
  clear c3
  have H' := Aside0.mk H
  clear H; go_enter Try.func43, Try.ntmps43
  go_wp2
  repeat (go_quiet (fail); try go_wp2)
  go_loopg [5] k (fun kq v5 w' => ∃ (x5_1 : Int), v5 = .int .i64 x5_1 ∧ Aside0 (laws_eqIntS.l0 kq l0 l1 x5_1 = some r) ∧ Aside0 (kq ≤ k) ∧ Drawn0 w w')
  case atStart => exact ⟨(0), (by first | rfl | (simp; done) | (simp [*]; done)), H', ⟨Nat.le_refl _⟩, by repeat (first | exact Drawn0.refl _ | apply Drawn0.step)⟩
  case round =>
   clear H'
   try clear c1; try clear p2; try clear c3; try clear c3b0; try clear c3b1; try clear c3b2
   obtain ⟨x5_1, rfl, HA, HK1, ⟨m1, rfl⟩⟩ := hrel
   cases gk with
   | zero => exact absurd HA.out (by simp [laws_eqIntS.l0])
   | succ k1 =>
    have H := HA.out; clear HA
    simp only [laws_eqIntS.l0] at H
    by_cases c4 : x5_1 < (l0.length : Int)
    ·rw [if_pos c4] at H
     have c4b0 : decide (x5_1 < (l0.length : Int)) = true := decide_eq_true c4
     clear c4; (try simp only [c4b0])
     by_cases c5 : 0 ≤ x5_1
     ·rw [if_pos c5] at H; have c5b0 : decide (0 ≤ x5_1) = true := decide_eq_true c5; clear c5; (try simp only [c5b0])
      by_cases c6 : x5_1 < (l1.length : Int)
      ·rw [if_pos c6] at H
       have c6b0 : decide (x5_1 < (l1.length : Int)) = true := decide_eq_true c6
       clear c6; (try simp only [c6b0])
       by_cases c7 : (rd l0 x5_1) = (rd l1 x5_1)
       ·rw [if_pos c7] at H; have c7b0 : ((rd l0 x5_1) == (rd l1 x5_1)) = true := beq_iff_eq.mpr c7; have c7b1 : ((rd l0 x5_1) != (rd l1 x5_1)) = false := bne_eq_false_iff_eq.mpr c7; clear c7
        have H' := Aside0.mk H
        clear H
        have p229 : 0 ≤ (x5_1 : Int) := of_decide_eq_true (by first | (with_reducible assumption) | assumption)
        have q229 : x5_1 < (l0.length : Int) := of_decide_eq_true (by first | (with_reducible assumption) | assumption)
        obtain ⟨ad229, e229, hx229_0⟩ := Kd.at_int HR0.out x5_1 p229 q229
        cases e229
        replace p229 := eq_true p229
        replace q229 := eq_true q229
        have p230 : 0 ≤ (x5_1 : Int) := of_decide_eq_true (by first | (with_reducible assumption) | assumption)
        have q230 : x5_1 < (l1.length : Int) := of_decide_eq_true (by first | (with_reducible assumption) | assumption)
        obtain ⟨ad230, e230, hx230_0⟩ := Kd.at_int HR1.out x5_1 p230 q230
        cases e230
        replace p230 := eq_true p230
        replace q230 := eq_true q230
        go_wp2
        repeat (go_quiet (fail); try go_wp2)
        go_roundg k1
        case measure => have := HK1.out; omega
        case rel => exact ⟨(wrap64 (x5_1 + 1)), (by first | rfl | (simp; done) | (simp [*]; done)), H', ⟨by have := HK1.out; omega⟩, by repeat (first | exact Drawn0.refl _ | apply Drawn0.step)⟩
       ·rw [if_neg c7] at H; have c7b0 : ((rd l0 x5_1) == (rd l1 x5_1)) = false := beq_eq_false_iff_ne.mpr c7; have c7b1 : ((rd l0 x5_1) != (rd l1 x5_1)) = true := bne_iff_ne.mpr c7
        obtain rfl := Option.some.inj H
        have p229 : 0 ≤ (x5_1 : Int) := of_decide_eq_true (by first | (with_reducible assumption) | assumption)
        have q229 : x5_1 < (l0.length : Int) := of_decide_eq_true (by first | (with_reducible assumption) | assumption)
        obtain ⟨ad229, e229, hx229_0⟩ := Kd.at_int HR0.out x5_1 p229 q229
        cases e229
        replace p229 := eq_true p229
        replace q229 := eq_true q229
        have p230 : 0 ≤ (x5_1 : Int) := of_decide_eq_true (by first | (with_reducible assumption) | assumption)
        have q230 : x5_1 < (l1.length : Int) := of_decide_eq_true (by first | (with_reducible assumption) | assumption)
        obtain ⟨ad230, e230, hx230_0⟩ := Kd.at_int HR1.out x5_1 p230 q230
        cases e230
        replace p230 := eq_true p230
        replace q230 := eq_true q230
        go_wp2
        repeat (go_quiet (fail); try go_wp2)
        go_ret
        exact ⟨by first | rfl | (simp; done) | (simp [*]; done), by repeat (first | exact Drawn0.refl _ | apply Drawn0.step)⟩
      ·rw [if_neg c6] at H
       exact absurd H (by simp)
     ·rw [if_neg c5] at H
      exact absurd H (by simp)
    ·rw [if_neg c4] at H
     have c4b0 : decide (x5_1 < (l0.length : Int)) = false := decide_eq_false c4
     clear c4; (try simp only [c4b0])
     obtain rfl := Option.some.inj H
     go_wp2
     repeat (go_quiet (fail); try go_wp2)
     go_ret
     exact ⟨by first | rfl | (simp; done) | (simp [*]; done), by repeat (first | exact Drawn0.refl _ | apply Drawn0.step)⟩
 ·rw [if_neg c3] at H
  have c3b0 : ((l0.length : Int) == (l1.length : Int)) = false := beq_eq_false_iff_ne.mpr c3
  have c3b1 : ((l0.length : Int) != (l1.length : Int)) = true := bne_iff_ne.mpr c3
  have c3b2 : (l0.length == l1.length) = false := by first | simpa using c3 | (simp at c3 ⊢; omega)
  obtain rfl := Option.some.inj H
  go_enter Try.func43, Try.ntmps43
  go_wp2
  repeat (go_quiet (fail); try go_wp2)
  go_ret
  exact ⟨by first | rfl | (simp; done) | (simp [*]; done), by repeat (first | exact Drawn0.refl _ | apply Drawn0.step)⟩

/-! ### laws_markIntS: function 44 -/
def laws_markIntS.l0 : Nat → List Int → Int → Int → Option (Int × List Int)
  | 0, _, _, _ => none
  | k + 1, x0, x1, x5 => if x5 < (x0.length : Int) then (if 0 ≤ x5 then (laws_markIntS.l0 k (x0.set (x5 : Int).toNat x1) (wrap64 (x1 + 1)) (wrap64 (x5 + 1))) else (none)) else (some (x1, x0))
def laws_markIntS.f (k : Nat) (l0 : List Int) (a1 : Int) : Option (Int × List Int) := laws_markIntS.l0 k l0 a1 0
theorem laws_markIntS.mono_l : ∀ k, (∀ y0 y1 y2, LeO (laws_markIntS.l0 k y0 y1 y2) (laws_markIntS.l0 (k + 1) y0 y1 y2))
 | 0 => fun _ _ _ r h => by simp [laws_markIntS.l0] at h
 | k + 1 => by
  have ih0 := laws_markIntS.mono_l k
  ·intro y0 y1 y2
   unfold laws_markIntS.l0
   repeat' first
   | (with_reducible exact ih0 _ _ _)
   | (with_reducible exact LeO.refl _)
   | (with_reducible exact LeO.none _)
   | (with_reducible refine LeO.ite ?_ ?_)
   | (with_reducible refine LeO.bind ?_ (fun _ => ?_))
   | exact ih0 _ _ _
   | exact LeO.none _
   | refine LeO.ite ?_ ?_
   | refine LeO.bind ?_ (fun _ => ?_)
theorem laws_markIntS.mono : ∀ a0 a1 k, LeO (laws_markIntS.f k a0 a1) (laws_markIntS.f (k + 1) a0 a1) := by
 intro a0 a1 k
 have ih0 := laws_markIntS.mono_l k
 unfold laws_markIntS.f
 repeat' first
   | (with_reducible exact ih0 _ _ _)
   | (with_reducible exact LeO.refl _)
   | (with_reducible exact LeO.none _)
   | (with_reducible refine LeO.ite ?_ ?_)
   | (with_reducible refine LeO.bind ?_ (fun _ => ?_))
   | exact ih0 _ _ _
   | exact LeO.none _
   | refine LeO.ite ?_ ?_
   | refine LeO.bind ?_ (fun _ => ?_)
set_option maxHeartbeats 8000000 in
set_option maxRecDepth 100000 in
theorem laws_markIntS.calls (k : Nat) (P0_ : Nat → Prop) (u9000_ : Value) (l0 : List Int) (a1 : Int) (r1 : Int) (r2 : List Int) (w0 w : World) (hB : Below w0.heap.size w0 w) (ho0 : Kd.R (Kd.int .i64) 3 w w0.heap.size P0_ u9000_ l0) (h : laws_markIntS.f k l0 a1 = some (r1, r2)) :
  Calls Try.prog 44 #[u9000_, .int .i64 a1] w fun e w' => e = .returned (.int .i64 r1) ∧ Kd.R (Kd.int .i64) 3 w' w0.heap.size (fun k_ => (P0_ k_ ∨ w.heap.size ≤ k_)) u9000_ r2 ∧ Below w0.heap.size w0 w' ∧ Kept w w' (fun k_ => P0_ k_) := by
 have HO0 := Aside0.mk (show Kd.R (Kd.int .i64) 3 w w0.heap.size (fun k_ => (P0_ k_ ∨ w.heap.size ≤ k_)) u9000_ l0 from Kd.R_mono ho0 (fun k_ hk => (.inl hk)))
 have HK := Aside0.mk (Kept.refl w (fun k_ => P0_ k_))
 have HW0 := Aside0.mk hB.size
 have HB := Aside0.mk hB; clear hB
 have H : (laws_markIntS.l0 k l0 a1 0) = some (r1, r2) := h
 clear h
 have H' := Aside0.mk H
 clear H; go_enter Try.func44, Try.ntmps44
 go_wp2
 go_loopg [1, 5] k (fun kq v1 v5 w' => ∃ (x0_1 : List Int) (x1_1 : Int) (x5_1 : Int), v1 = .int .i64 x1_1 ∧ v5 = .int .i64 x5_1 ∧ Aside0 (laws_markIntS.l0 kq x0_1 x1_1 x5_1 = some (r1, r2)) ∧ Aside0 (kq ≤ k) ∧ Aside0 (Kd.R (Kd.int .i64) 3 w' w0.heap.size (fun k_ => (P0_ k_ ∨ w.heap.size ≤ k_)) u9000_ x0_1) ∧ Aside0 (Kept w w' (fun k_ => P0_ k_)) ∧ Aside0 (Below w0.heap.size w0 w'))
 case atStart => exact ⟨(l0), (a1), (0), (by first | rfl | (simp; done) | (simp [*]; done)), (by first | rfl | (simp; done) | (simp [*]; done)), H', ⟨Nat.le_refl _⟩, ⟨by exact Kd.R_nw HO0.out⟩, ⟨by exact kpt⟩, ⟨by exact bel0⟩⟩
 case round =>
  clear H'
  try clear p2
  obtain ⟨x0_1, x1_1, x5_1, rfl, rfl, HA, HK1, HO_0, HK, HB⟩ := hrel
  cases gk with
  | zero => exact absurd HA.out (by simp [laws_markIntS.l0])
  | succ k1 =>
   have H := HA.out; clear HA
   simp only [laws_markIntS.l0] at H
   by_cases c3 : x5_1 < (x0_1.length : Int)
   ·rw [if_pos c3] at H
    have c3b0 : decide (x5_1 < (x0_1.length : Int)) = true := decide_eq_true c3
    clear c3; (try simp only [c3b0])
    by_cases c4 : 0 ≤ x5_1
    ·rw [if_pos c4] at H; have c4b0 : decide (0 ≤ x5_1) = true := decide_eq_true c4; clear c4; (try simp only [c4b0])
     obtain ⟨y231, hy231⟩ : ∃ y_ : List Int, y_ = (x0_1.set (x5_1 : Int).toNat x1_1) := ⟨_, rfl⟩
     replace H : (laws_markIntS.l0 k1 y231 (wrap64 (x1_1 + 1)) (wrap64 (x5_1 + 1))) = some (r1, r2) := by first | (rw [hy231]; with_reducible exact H) | (have H2_ := (Option.bind_some _ _).symm.trans H; rw [hy231]; with_reducible exact H2_) | (have H2_ := (Option.bind_some _ _).symm.trans H; with_reducible exact H2_) | with_reducible exact H | (rw [hy231]; exact H) | exact H
     have Ny231 := Aside0.mk hy231; clear hy231
     have H' := Aside0.mk H
     clear H
     obtain ⟨Ao6, co6, eo6⟩ := Kd.R_slice HO_0.out
     subst eo6
     have p5 : 0 ≤ (x5_1 : Int) := of_decide_eq_true (by first | (with_reducible assumption) | assumption)
     have q5 : (x5_1 : Int) < ((x0_1.length : Int) : Int) := of_decide_eq_true (by first | (with_reducible assumption) | assumption)
     obtain ⟨go5, co5, eo5, gb5, gl5, cl5, HG5⟩ := Kd.R_form HO_0.out (by omega)
     (first | cases eo5 | (injection eo5 with ea_ en_ ec_; (first | subst ea_ | (injection ea_ with ea_; subst ea_)); subst ec_; clear en_))
     have GB5 := Aside0.mk gb5; have GG5 := Aside0.mk HG5; clear gb5 gl5 HG5
     have HMgo5 := Aside0.mk (show (P0_ go5 ∨ w.heap.size ≤ go5) from (HO_0.out.1 _ rfl))
     obtain ⟨hx5_0, hf5_0⟩ := Kd.R_celln 0 HO_0.out (x5_1 : Int) p5 q5
     replace p5 := eq_true p5
     replace q5 := eq_true q5
     have HP7 := Kd.R_putg HO_0.out (x5_1 : Int) x1_1
     go_wp2_with (first | ((with_reducible refine gate_store (t := 3) (p := 15) rfl ?_); refine store_event (t := 3) (p := 15) (v := ?vo_w8) (w1 := (wr.setCell ⟨go5, (x5_1 : Int).toNat, none⟩ (.int .i64 x1_1))) ?hg ?ho ?hn ?hr ?_; (case ho => rfl); (case hg => rfl); (case hn => rfl); (case hr => first | (go_simp; done) | (go_simp; rfl)); intro w8 hw; have hg : wr.grownBy w8 (some go5) := (by rw [hw]; exact HP7.2); have hp_ : Kd.R (Kd.int .i64) 3 w8 w0.heap.size (fun k_ => (P0_ k_ ∨ w.heap.size ≤ k_)) (.slice (some ⟨go5, 0, none⟩) x0_1.length co6) y231 := (by rw [hw, Ny231.out]; exact HP7.1); clear HP7; have n_ := an (hp_) (an ((by rw [hw]; exact below_set (HB.out) GB5.out : Below w0.heap.size w0 w8)) (an (Kept.of_grown (S := (fun k_ => P0_ k_)) hg (by exact kpt) (fun k_ e_ => (HO_0.out.1 k_ e_))) (trivial))); clear HO_0 HB HK; obtain ⟨HO_0, HB, HK, -⟩ := n_; clear hg hw hp_))
     go_roundg k1
     case measure => have := HK1.out; omega
     case rel => exact ⟨(y231), (wrap64 (x1_1 + 1)), (wrap64 (x5_1 + 1)), (by first | rfl | (simp; done) | (simp [*]; done)), (by first | rfl | (simp; done) | (simp [*]; done)), H', ⟨by have := HK1.out; omega⟩, ⟨by exact Kd.R_nw HO_0.out⟩, ⟨by exact kpt⟩, ⟨by exact bel0⟩⟩
    ·rw [if_neg c4] at H
     exact absurd H (by simp)
   ·rw [if_neg c3] at H
    have c3b0 : decide (x5_1 < (x0_1.length : Int)) = false := decide_eq_false c3
    clear c3; (try simp only [c3b0]); simp only [Option.some.injEq, Prod.mk.injEq] at H; obtain ⟨rfl, rfl⟩ := H
    obtain ⟨Ao9, co9, eo9⟩ := Kd.R_slice HO_0.out
    subst eo9
    go_wp2
    go_ret
    exact ⟨by first | rfl | (simp [errW_none, errW_some] <;> rfl) | (simp [*, errW_none, errW_some] <;> rfl), by exact Kd.R_nw HO_0.out, by exact bel0, by exact kpt⟩

/-! ### laws_heldIntS: function 45 -/
def laws_heldIntS.l0 : Nat → List Int → Int → Int → Option (Int)
  | 0, _, _, _ => none
  | k + 1, x0, x1, x5 => if x5 < (x0.length : Int) then (if 0 ≤ x5 then (if (rd x0 x5) = x1 then (laws_heldIntS.l0 k x0 (wrap64 (x1 + 1)) (wrap64 (x5 + 1))) else (some (-1))) else (none)) else (some x1)
def laws_heldIntS.f (k : Nat) (l0 : List Int) (a1 : Int) : Option (Int) := laws_heldIntS.l0 k l0 a1 0
theorem laws_heldIntS.mono_l : ∀ k, (∀ y0 y1 y2, LeO (laws_heldIntS.l0 k y0 y1 y2) (laws_heldIntS.l0 (k + 1) y0 y1 y2))
 | 0 => fun _ _ _ r h => by simp [laws_heldIntS.l0] at h
 | k + 1 => by
  have ih0 := laws_heldIntS.mono_l k
  ·intro y0 y1 y2
   unfold laws_heldIntS.l0
   repeat' first
   | (with_reducible exact ih0 _ _ _)
   | (with_reducible exact LeO.refl _)
   | (with_reducible exact LeO.none _)
   | (with_reducible refine LeO.ite ?_ ?_)
   | (with_reducible refine LeO.bind ?_ (fun _ => ?_))
   | exact ih0 _ _ _
   | exact LeO.none _
   | refine LeO.ite ?_ ?_
   | refine LeO.bind ?_ (fun _ => ?_)
theorem laws_heldIntS.mono : ∀ a0 a1 k, LeO (laws_heldIntS.f k a0 a1) (laws_heldIntS.f (k + 1) a0 a1) := by
 intro a0 a1 k
 have ih0 := laws_heldIntS.mono_l k
 unfold laws_heldIntS.f
 repeat' first
   | (with_reducible exact ih0 _ _ _)
   | (with_reducible exact LeO.refl _)
   | (with_reducible exact LeO.none _)
   | (with_reducible refine LeO.ite ?_ ?_)
   | (with_reducible refine LeO.bind ?_ (fun _ => ?_))
   | exact ih0 _ _ _
   | exact LeO.none _
   | refine LeO.ite ?_ ?_
   | refine LeO.bind ?_ (fun _ => ?_)
set_option maxHeartbeats 8000000 in
set_option maxRecDepth 100000 in
theorem laws_heldIntS.calls (k : Nat) (A0 : Option Addr) (c0 : Nat) (l0 : List Int) (a1 : Int) (r : Int) (w : World) (hr0 : Kd.C (Kd.int .i64) w A0 l0.length l0) (hc0 : l0.length ≤ c0) (h : laws_heldIntS.f k l0 a1 = some r) :
  Calls Try.prog 45 #[.slice A0 l0.length c0, .int .i64 a1] w fun e w' => e = .returned (.int .i64 r) ∧ Drawn0 w w' := by
 have HR0 := Aside0.mk hr0; have HC0 := Aside0.mk hc0; clear hr0 hc0
 have H : (laws_heldIntS.l0 k l0 a1 0) = some r := h
 clear h
 have H' := Aside0.mk H
 clear H; go_enter Try.func45, Try.ntmps45
 go_wp2
 go_loopg [1, 5] k (fun kq v1 v5 w' => ∃ (x1_1 : Int) (x5_1 : Int), v1 = .int .i64 x1_1 ∧ v5 = .int .i64 x5_1 ∧ Aside0 (laws_heldIntS.l0 kq l0 x1_1 x5_1 = some r) ∧ Aside0 (kq ≤ k) ∧ Drawn0 w w')
 case atStart => exact ⟨(a1), (0), (by first | rfl | (simp; done) | (simp [*]; done)), (by first | rfl | (simp; done) | (simp [*]; done)), H', ⟨Nat.le_refl _⟩, by repeat (first | exact Drawn0.refl _ | apply Drawn0.step)⟩
 case round =>
  clear H'
  try clear p2
  obtain ⟨x1_1, x5_1, rfl, rfl, HA, HK1, ⟨m1, rfl⟩⟩ := hrel
  cases gk with
  | zero => exact absurd HA.out (by simp [laws_heldIntS.l0])
  | succ k1 =>
   have H := HA.out; clear HA
   simp only [laws_heldIntS.l0] at H
   by_cases c3 : x5_1 < (l0.length : Int)
   ·rw [if_pos c3] at H
    have c3b0 : decide (x5_1 < (l0.length : Int)) = true := decide_eq_true c3
    clear c3; (try simp only [c3b0])
    by_cases c4 : 0 ≤ x5_1
    ·rw [if_pos c4] at H; have c4b0 : decide (0 ≤ x5_1) = true := decide_eq_true c4; clear c4; (try simp only [c4b0])
     by_cases c5 : (rd l0 x5_1) = x1_1
     ·rw [if_pos c5] at H; have c5b0 : ((rd l0 x5_1) == x1_1) = true := beq_iff_eq.mpr c5; have c5b1 : ((rd l0 x5_1) != x1_1) = false := bne_eq_false_iff_eq.mpr c5; clear c5
      have H' := Aside0.mk H
      clear H
      have p232 : 0 ≤ (x5_1 : Int) := of_decide_eq_true (by first | (with_reducible assumption) | assumption)
      have q232 : x5_1 < (l0.length : Int) := of_decide_eq_true (by first | (with_reducible assumption) | assumption)
      obtain ⟨ad232, e232, hx232_0⟩ := Kd.at_int HR0.out x5_1 p232 q232
      cases e232
      replace p232 := eq_true p232
      replace q232 := eq_true q232
      go_wp2
      go_roundg k1
      case measure => have := HK1.out; omega
      case rel => exact ⟨(wrap64 (x1_1 + 1)), (wrap64 (x5_1 + 1)), (by first | rfl | (simp; done) | (simp [*]; done)), (by first | rfl | (simp; done) | (simp [*]; done)), H', ⟨by have := HK1.out; omega⟩, by repeat (first | exact Drawn0.refl _ | apply Drawn0.step)⟩
     ·rw [if_neg c5] at H; have c5b0 : ((rd l0 x5_1) == x1_1) = false := beq_eq_false_iff_ne.mpr c5; have c5b1 : ((rd l0 x5_1) != x1_1) = true := bne_iff_ne.mpr c5
      obtain rfl := Option.some.inj H
      have p232 : 0 ≤ (x5_1 : Int) := of_decide_eq_true (by first | (with_reducible assumption) | assumption)
      have q232 : x5_1 < (l0.length : Int) := of_decide_eq_true (by first | (with_reducible assumption) | assumption)
      obtain ⟨ad232, e232, hx232_0⟩ := Kd.at_int HR0.out x5_1 p232 q232
      cases e232
      replace p232 := eq_true p232
      replace q232 := eq_true q232
      go_wp2
      go_ret
      exact ⟨by first | rfl | (simp; done) | (simp [*]; done), by repeat (first | exact Drawn0.refl _ | apply Drawn0.step)⟩
    ·rw [if_neg c4] at H
     exact absurd H (by simp)
   ·rw [if_neg c3] at H
    have c3b0 : decide (x5_1 < (l0.length : Int)) = false := decide_eq_false c3
    clear c3; (try simp only [c3b0])
    obtain rfl := Option.some.inj H
    go_wp2
    go_ret
    exact ⟨by first | rfl | (simp; done) | (simp [*]; done), by repeat (first | exact Drawn0.refl _ | apply Drawn0.step)⟩

end Go.Proofs.Ytigoajblljolcaa.XFnExactWheelTick
