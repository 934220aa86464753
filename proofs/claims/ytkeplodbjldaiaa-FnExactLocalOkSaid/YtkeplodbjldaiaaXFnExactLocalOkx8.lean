-- Written by this session's own program (xprint.py) over the kit's print.
import Derived.Test.YtkeplodbjldaiaaXFnExactLocalOkx0
import Derived.Test.YtkeplodbjldaiaaXFnExactLocalOkx1
import Derived.Test.YtkeplodbjldaiaaXFnExactLocalOkx3
import Derived.Test.YtkeplodbjldaiaaXFnExactLocalOkx4
import Derived.Test.YtkeplodbjldaiaaXFnExactLocalOkx6
import Derived.Test.YtkeplodbjldaiaaXFnExactLocalOkx7
namespace Go.Proofs.Ytkeplodbjldaiaa.XFnExactLocalOk
open Go.RowKit Go.Proofs.YtkeplodbjldaiaaW.PrintWords Go.Proofs.YtkeplodbjldaiaaW.PrintLast Go.Proofs.YtkeplodbjldaiaaW.PrintMore
attribute [local go_sem] max2_int min2_int max_two min_two max_three min_three max_four min_four   -- for this text's walks alone
set_option linter.unusedVariables false
set_option linter.unusedSimpArgs false

/-! ### laws_eqServiceS: function 28 -/
def laws_eqServiceS.l0 : Nat → List (S43) → List (S43) → Int → Option (Bool)
  | 0, _, _, _ => none
  | k + 1, x0, x1, x5 => if x5 < (x0.length : Int) then (if 0 ≤ x5 then (if x5 < (x1.length : Int) then ((laws_eqService.f k ((rd_T43 x0 x5).f0) ((rd_T43 x0 x5).f1) ((rd_T43 x1 x5).f0) ((rd_T43 x1 x5).f1)).bind fun t277 => (if t277 = true then (laws_eqServiceS.l0 k x0 x1 (wrap64 (x5 + 1))) else (some false))) else (none)) else (none)) else (some true)
def laws_eqServiceS.f (k : Nat) (l0 : List (S43)) (l1 : List (S43)) : Option (Bool) := if (l0.length : Int) = (l1.length : Int) then (laws_eqServiceS.l0 k l0 l1 0) else (some false)
theorem laws_eqServiceS.mono_l : ∀ k, (∀ y0 y1 y2, LeO (laws_eqServiceS.l0 k y0 y1 y2) (laws_eqServiceS.l0 (k + 1) y0 y1 y2))
 | 0 => fun _ _ _ r h => by simp [laws_eqServiceS.l0] at h
 | k + 1 => by
  have ih0 := laws_eqServiceS.mono_l k
  ·intro y0 y1 y2
   unfold laws_eqServiceS.l0
   repeat' first
   | (with_reducible exact ih0 _ _ _)
   | (with_reducible exact laws_eqService.mono _ _ _ _ _)
   | (with_reducible exact LeO.refl _)
   | (with_reducible exact LeO.none _)
   | (with_reducible refine LeO.ite ?_ ?_)
   | (with_reducible refine LeO.bind ?_ (fun _ => ?_))
   | exact ih0 _ _ _
   | exact laws_eqService.mono _ _ _ _ _
   | exact LeO.none _
   | refine LeO.ite ?_ ?_
   | refine LeO.bind ?_ (fun _ => ?_)
theorem laws_eqServiceS.mono : ∀ a0 a1 k, LeO (laws_eqServiceS.f k a0 a1) (laws_eqServiceS.f (k + 1) a0 a1) := by
 intro a0 a1 k
 have ih0 := laws_eqServiceS.mono_l k
 unfold laws_eqServiceS.f
 repeat' first
   | (with_reducible exact ih0 _ _ _)
   | (with_reducible exact laws_eqService.mono _ _ _ _ _)
   | (with_reducible exact LeO.refl _)
   | (with_reducible exact LeO.none _)
   | (with_reducible refine LeO.ite ?_ ?_)
   | (with_reducible refine LeO.bind ?_ (fun _ => ?_))
   | exact ih0 _ _ _
   | exact laws_eqService.mono _ _ _ _ _
   | exact LeO.none _
   | refine LeO.ite ?_ ?_
   | refine LeO.bind ?_ (fun _ => ?_)
def laws_eqServiceS.T6 : Bool × List (List Nat × List Nat) := (true, [([], []), ([], []), ([0, 1], [0, 1]), ([2], [2]), ([], []), ([], []), ([4, 5], [4, 5]), ([6], [6]), ([3, 7], [3, 7]), ([8], [8])])
def laws_eqServiceS.B6 : List Nat := [0, 0, 3, 7, 0, 0, 48, 112, 255, 511]
theorem laws_eqServiceS.tab6 : rtab .any (opsOf Try.f28 6) = laws_eqServiceS.T6 := by kernel_rfl
theorem laws_eqServiceS.bits6 : waitsOk laws_eqServiceS.T6.2 laws_eqServiceS.B6 = true := by kernel_rfl
set_option maxHeartbeats 8000000 in
set_option maxRecDepth 100000 in
theorem laws_eqServiceS.calls (k : Nat) (A0 : Option Addr) (c0 : Nat) (l0 : List (S43)) (A1 : Option Addr) (c1 : Nat) (l1 : List (S43)) (r : Bool) (w : World) (hr0 : Kd.C k43 w A0 l0.length l0) (hc0 : l0.length ≤ c0) (hr1 : Kd.C k43 w A1 l1.length l1) (hc1 : l1.length ≤ c1) (h : laws_eqServiceS.f k l0 l1 = some r) :
  Calls Try.prog 28 #[.slice A0 l0.length c0, .slice A1 l1.length c1] w fun e w' => e = .returned (.bool r) ∧ Below w.heap.size w w' := by
 have hu43 := Try.underlying43
 have HR0 := Aside0.mk hr0; have HC0 := Aside0.mk hc0; clear hr0 hc0; have HR1 := Aside0.mk hr1; have HC1 := Aside0.mk hc1; clear hr1 hc1
 have HB := Aside0.mk (Below.refl w.heap.size w)
 have H : (if (l0.length : Int) = (l1.length : Int) then (laws_eqServiceS.l0 k l0 l1 0) else (some false)) = some r := h
 clear h
 by_cases c3 : (l0.length : Int) = (l1.length : Int)
 ·rw [if_pos c3] at H
  have c3b0 : ((l0.length : Int) == (l1.length : Int)) = true := beq_iff_eq.mpr c3
  have c3b1 : ((l0.length : Int) != (l1.length : Int)) = false := bne_eq_false_iff_eq.mpr c3
  have c3b2 : (l0.length == l1.length) = true := by first | simpa using c3 | (simp at c3 ⊢; omega)
  clear c3
  have H' := Aside0.mk H
  clear H; go_enter Try.func28, Try.ntmps28
  go_wp2
  go_loopg [5] k (fun kq v5 w' => ∃ (x5_1 : Int), v5 = .int .i64 x5_1 ∧ Aside0 (laws_eqServiceS.l0 kq l0 l1 x5_1 = some r) ∧ Aside0 (kq ≤ k) ∧ Aside0 (Below w.heap.size w w'))
  case atStart => exact ⟨(0), (by first | rfl | (simp; done) | (simp [*]; done)), H', ⟨Nat.le_refl _⟩, ⟨by exact bel0⟩⟩
  case round =>
   clear H'
   try clear c1; try clear c2; try clear p2; try clear c3; try clear c3b0; try clear c3b1; try clear c3b2
   obtain ⟨x5_1, rfl, HA, HK1, HB⟩ := hrel
   cases gk with
   | zero => exact absurd HA.out (by simp [laws_eqServiceS.l0])
   | succ k1 =>
    have H := HA.out; clear HA
    simp only [laws_eqServiceS.l0] at H
    by_cases c4 : x5_1 < (l0.length : Int)
    ·rw [if_pos c4] at H
     have c4b0 : decide (x5_1 < (l0.length : Int)) = true := decide_eq_true c4
     clear c4; (try simp only [c4b0])
     by_cases c5 : 0 ≤ x5_1
     ·rw [if_pos c5] at H; have c5b0 : decide (0 ≤ x5_1) = true := decide_eq_true c5; clear c5; (try simp only [c5b0])
      by_cases c6 : x5_1 < (l1.length : Int)
      ·rw [if_pos c6] at H
       have c6b0 : decide (x5_1 < (l1.length : Int)) = true := decide_eq_true c6
       clear c6; (try simp only [c6b0]); replace H := Option.bind_eq_some_iff.mp H; obtain ⟨t277, A70, H⟩ := H; have A7 := Aside0.mk A70; clear A70
       replace H := Aside0.mk H
       try go_wp2
       have n_ := an (below_drew1 HB.out) (trivial)
       clear HB
       obtain ⟨HB, -⟩ := n_
       have p275 : 0 ≤ (x5_1 : Int) := of_decide_eq_true (by first | (with_reducible assumption) | assumption)
       have q275 : x5_1 < (l0.length : Int) := of_decide_eq_true (by first | (with_reducible assumption) | assumption)
       obtain ⟨ad275, A275_0, c275_0, A275_1, c275_1, e275, hx275_0, hx275_1, hl275_0, hi275_0, hl275_1, hi275_1⟩ := at_T43 HR0.out x5_1 p275 q275
       have hw275_1 := hx275_1
       have hw275_0 := hx275_0
       cases e275
       replace hx275_0 := (HB.out.cell (World.block_lt_of_cell? w _ hx275_0)).trans hx275_0
       replace hx275_1 := (HB.out.cell (World.block_lt_of_cell? w _ hx275_1)).trans hx275_1
       have HR275_0 := Aside0.mk hi275_0; have HC275_0 := Aside0.mk hl275_0; clear hi275_0 hl275_0; have HR275_1 := Aside0.mk hi275_1; have HC275_1 := Aside0.mk hl275_1; clear hi275_1 hl275_1
       replace p275 := eq_true p275
       replace q275 := eq_true q275
       have p276 : 0 ≤ (x5_1 : Int) := of_decide_eq_true (by first | (with_reducible assumption) | assumption)
       have q276 : x5_1 < (l1.length : Int) := of_decide_eq_true (by first | (with_reducible assumption) | assumption)
       obtain ⟨ad276, A276_0, c276_0, A276_1, c276_1, e276, hx276_0, hx276_1, hl276_0, hi276_0, hl276_1, hi276_1⟩ := at_T43 HR1.out x5_1 p276 q276
       have hw276_1 := hx276_1
       have hw276_0 := hx276_0
       cases e276
       replace hx276_0 := (HB.out.cell (World.block_lt_of_cell? w _ hx276_0)).trans hx276_0
       replace hx276_1 := (HB.out.cell (World.block_lt_of_cell? w _ hx276_1)).trans hx276_1
       have HR276_0 := Aside0.mk hi276_0; have HC276_0 := Aside0.mk hl276_0; clear hi276_0 hl276_0; have HR276_1 := Aside0.mk hi276_1; have HC276_1 := Aside0.mk hl276_1; clear hi276_1 hl276_1
       replace p276 := eq_true p276
       replace q276 := eq_true q276
       refine start_ (n := 10) (S := fun w' => w'.cell? (ad275.add ((x5_1).toNat * 2)) = some (.slice A275_0 ((rd_T43 l0 x5_1).f0).length c275_0) ∧ w'.cell? ⟨(ad275.add ((x5_1).toNat * 2)).block, (ad275.add ((x5_1).toNat * 2)).off + 1, none⟩ = some (.slice A275_1 ((rd_T43 l0 x5_1).f1).length c275_1) ∧ w'.cell? (ad276.add ((x5_1).toNat * 2)) = some (.slice A276_0 ((rd_T43 l1 x5_1).f0).length c276_0) ∧ w'.cell? ⟨(ad276.add ((x5_1).toNat * 2)).block, (ad276.add ((x5_1).toNat * 2)).off + 1, none⟩ = some (.slice A276_1 ((rd_T43 l1 x5_1).f1).length c276_1)) (ds := []) #[false, false, false, false, false, false, false, false, false, false] (by kernel_rfl) rfl rfl ⟨((HB.out.cell (World.block_lt_of_cell? w _ hw275_0)).trans hw275_0), ((HB.out.cell (World.block_lt_of_cell? w _ hw275_1)).trans hw275_1), ((HB.out.cell (World.block_lt_of_cell? w _ hw276_0)).trans hw276_0), ((HB.out.cell (World.block_lt_of_cell? w _ hw276_1)).trans hw276_1)⟩ (fun hHeld => ?_); refine with_tabW laws_eqServiceS.tab6 laws_eqServiceS.bits6 (fun HT_ HW_ => ?_)
       generalize wr.drew = w8 at HB HR275_0 HR275_1 HR276_0 HR276_1 hx275_0 hx275_1 hx276_0 hx276_1 hHeld ⊢
       refine pure_ (i := 0) (N := some 17) (v := ?_) (a' := ?_) #[true, false, false, false, false, false, false, false, false, false] rfl rfl (any_of HT_.out (by kernel_rfl)) (fun _ _ _ h => h) (Or.inl ⟨by rfl, ?_⟩) ?_ ?_
       rotate_left
       ·intro w'
        go_simp
        with_reducible rfl
       rotate_left
       ·simp only [Act.put, List.setIfInBounds_toArray, List.set_cons_zero, List.set_cons_succ, i64_w, i32_w]
        rfl
       refine pure_ (i := 1) (N := some 18) (v := ?_) (a' := ?_) #[true, true, false, false, false, false, false, false, false, false] rfl rfl (any_of HT_.out (by kernel_rfl)) (fun _ _ _ h => h) (Or.inl ⟨by rfl, ?_⟩) ?_ ?_
       rotate_left
       ·intro w'
        go_simp
        with_reducible rfl
       rotate_left
       ·simp only [Act.put, List.setIfInBounds_toArray, List.set_cons_zero, List.set_cons_succ, i64_w, i32_w]
        rfl
       refine pure_ (i := 2) (N := some 19) (v := ?_) (a' := ?_) #[true, true, true, false, false, false, false, false, false, false] rfl rfl (any_of HT_.out (by kernel_rfl)) (fun _ _ _ h => h) (Or.inl ⟨by rfl, ?_⟩) ?_ ?_
       rotate_left
       ·intro w'
        go_simp
        with_reducible rfl
       rotate_left
       ·simp only [Act.put, List.setIfInBounds_toArray, List.set_cons_zero, List.set_cons_succ, i64_w, i32_w]
        rfl
       refine pure_ (i := 4) (N := some 21) (v := ?_) (a' := ?_) #[true, true, true, false, true, false, false, false, false, false] rfl rfl (any_of HT_.out (by kernel_rfl)) (fun _ _ _ h => h) (Or.inl ⟨by rfl, ?_⟩) ?_ ?_
       rotate_left
       ·intro w'
        go_simp
        with_reducible rfl
       rotate_left
       ·simp only [Act.put, List.setIfInBounds_toArray, List.set_cons_zero, List.set_cons_succ, i64_w, i32_w]
        rfl
       refine pure_ (i := 5) (N := some 22) (v := ?_) (a' := ?_) #[true, true, true, false, true, true, false, false, false, false] rfl rfl (any_of HT_.out (by kernel_rfl)) (fun _ _ _ h => h) (Or.inl ⟨by rfl, ?_⟩) ?_ ?_
       rotate_left
       ·intro w'
        go_simp
        with_reducible rfl
       rotate_left
       ·simp only [Act.put, List.setIfInBounds_toArray, List.set_cons_zero, List.set_cons_succ, i64_w, i32_w]
        rfl
       refine pure_ (i := 6) (N := some 23) (v := ?_) (a' := ?_) #[true, true, true, false, true, true, true, false, false, false] rfl rfl (any_of HT_.out (by kernel_rfl)) (fun _ _ _ h => h) (Or.inl ⟨by rfl, ?_⟩) ?_ ?_
       rotate_left
       ·intro w'
        go_simp
        with_reducible rfl
       rotate_left
       ·simp only [Act.put, List.setIfInBounds_toArray, List.set_cons_zero, List.set_cons_succ, i64_w, i32_w]
        rfl
       refine take_ (i := 3) (N := some 20) (v := ?_) (a' := ?_) #[true, true, true, true, true, true, true, false, false, false] rfl rfl (take_ofW HT_.out HW_.out (by kernel_rfl)) (fun _ _ _ h => h) (Or.inl ⟨by rfl, ?_⟩) hHeld ?_ ?_
       rotate_left
       ·rintro w' ⟨s0, s1, s2, s3⟩
        go_simp
        with_reducible rfl
       rotate_left
       ·simp only [Act.put, List.setIfInBounds_toArray, List.set_cons_zero, List.set_cons_succ, i64_w, i32_w]
        rfl
       refine take_ (i := 7) (N := some 24) (v := ?_) (a' := ?_) #[true, true, true, true, true, true, true, true, false, false] rfl rfl (take_ofW HT_.out HW_.out (by kernel_rfl)) (fun _ _ _ h => h) (Or.inl ⟨by rfl, ?_⟩) hHeld ?_ ?_
       rotate_left
       ·rintro w' ⟨s0, s1, s2, s3⟩
        go_simp
        with_reducible rfl
       rotate_left
       ·simp only [Act.put, List.setIfInBounds_toArray, List.set_cons_zero, List.set_cons_succ, i64_w, i32_w]
        rfl
       refine one_ (i := 8) (N := some 25) #[true, true, true, true, true, true, true, true, true, false] rfl rfl (one_of HT_.out (by kernel_rfl)) (by decide) (fun K hK => ?_)
       refine goes_ Try.func46 (by kernel_rfl) rfl #[.agg #[.slice A275_0 ((rd_T43 l0 x5_1).f0).length c275_0, .slice A275_1 ((rd_T43 l0 x5_1).f1).length c275_1], .agg #[.slice A276_0 ((rd_T43 l1 x5_1).f0).length c276_0, .slice A276_1 ((rd_T43 l1 x5_1).f1).length c276_1]] (by rfl) rfl rfl (by (try simp only [List.map_toArray, List.map_cons, List.map_nil]); first | done | rfl | (simp only [List.length_drop, List.length_take]; rfl)) ?_
       with_reducible refine (laws_eqService.calls k1 _ _ ((rd_T43 l0 x5_1).f0) _ _ ((rd_T43 l0 x5_1).f1) _ _ ((rd_T43 l1 x5_1).f0) _ _ ((rd_T43 l1 x5_1).f1) t277 _ ?side1 ?side2 ?side3 ?side4 ?side5 ?side6 ?side7 ?side8 A7.out).mono ?_
       (case side1 => repeat (first | exact (Kd.C_below HR275_0.out HB.out) | (with_reducible refine Kd.C_alloc ?_ _) | (with_reducible refine Kd.C_drewN ?_ _) | (with_reducible refine Kd.C_drew ?_)))
       (case side2 => exact HC275_0.out)
       (case side3 => repeat (first | exact (Kd.C_below HR275_1.out HB.out) | (with_reducible refine Kd.C_alloc ?_ _) | (with_reducible refine Kd.C_drewN ?_ _) | (with_reducible refine Kd.C_drew ?_)))
       (case side4 => exact HC275_1.out)
       (case side5 => repeat (first | exact (Kd.C_below HR276_0.out HB.out) | (with_reducible refine Kd.C_alloc ?_ _) | (with_reducible refine Kd.C_drewN ?_ _) | (with_reducible refine Kd.C_drew ?_)))
       (case side6 => exact HC276_0.out)
       (case side7 => repeat (first | exact (Kd.C_below HR276_1.out HB.out) | (with_reducible refine Kd.C_alloc ?_ _) | (with_reducible refine Kd.C_drewN ?_ _) | (with_reducible refine Kd.C_drew ?_)))
       (case side8 => exact HC276_1.out)
       rintro e w9 ⟨rfl, hb⟩
       refine ⟨_, rfl, ?_⟩
       have n_ := an (below_step (by exact bel0) hb) (trivial)
       clear HB
       obtain ⟨HB, -⟩ := n_
       (try clear hb); (try clear hb2); (try clear hk); (try clear hi)
       refine hK.out _ _ ⟨((HB.out.cell (World.block_lt_of_cell? w _ hw275_0)).trans hw275_0), ((HB.out.cell (World.block_lt_of_cell? w _ hw275_1)).trans hw275_1), ((HB.out.cell (World.block_lt_of_cell? w _ hw276_0)).trans hw276_0), ((HB.out.cell (World.block_lt_of_cell? w _ hw276_1)).trans hw276_1)⟩ (fun hHeld => ?_)
       clear hK K
       refine norm_ (a' := ?_) ?_ ?_
       rotate_left
       ·show Act.put _ (some 25) _ = _
        simp only [Act.put, List.setIfInBounds_toArray, List.set_cons_zero, List.set_cons_succ, i64_w, i32_w]
        rfl
       refine pure_ (i := 9) (N := some 26) (v := ?_) (a' := ?_) #[true, true, true, true, true, true, true, true, true, true] rfl rfl (any_of HT_.out (by kernel_rfl)) (fun _ _ _ h => h) (Or.inl ⟨by rfl, ?_⟩) ?_ ?_
       rotate_left
       ·intro w'
        go_simp
        with_reducible rfl
       rotate_left
       ·simp only [Act.put, List.setIfInBounds_toArray, List.set_cons_zero, List.set_cons_succ, i64_w, i32_w]
        rfl
       refine done_ (done_of HT_.out (by kernel_rfl)) ?_
       replace H := H.out
       by_cases c10 : t277 = true
       ·subst c10; rw [if_pos rfl] at H
        have H' := Aside0.mk H
        clear H
        go_wp2
        go_roundg k1
        case measure => have := HK1.out; omega
        case rel => exact ⟨(wrap64 (x5_1 + 1)), (by first | rfl | (simp; done) | (simp [*]; done)), H', ⟨by have := HK1.out; omega⟩, ⟨by exact bel0⟩⟩
       ·replace c10 := Bool.eq_false_iff.mpr c10
        subst c10
        rw [if_neg (show ¬ (false = true) by decide)] at H
        obtain rfl := Option.some.inj H
        go_wp2
        go_ret
        exact ⟨by first | rfl | (simp [errW_none, errW_some] <;> rfl) | (simp [*, errW_none, errW_some] <;> rfl), by exact bel0⟩
      ·rw [if_neg c6] at H
       exact absurd H (by simp)
     ·rw [if_neg c5] at H
      exact absurd H (by simp)
    ·rw [if_neg c4] at H
     have c4b0 : decide (x5_1 < (l0.length : Int)) = false := decide_eq_false c4
     clear c4; (try simp only [c4b0])
     obtain rfl := Option.some.inj H
     go_wp2
     go_ret
     exact ⟨by first | rfl | (simp [errW_none, errW_some] <;> rfl) | (simp [*, errW_none, errW_some] <;> rfl), by exact bel0⟩
 ·rw [if_neg c3] at H
  have c3b0 : ((l0.length : Int) == (l1.length : Int)) = false := beq_eq_false_iff_ne.mpr c3
  have c3b1 : ((l0.length : Int) != (l1.length : Int)) = true := bne_iff_ne.mpr c3
  have c3b2 : (l0.length == l1.length) = false := by first | simpa using c3 | (simp at c3 ⊢; omega)
  obtain rfl := Option.some.inj H
  go_enter Try.func28, Try.ntmps28
  go_wp2
  go_ret
  exact ⟨by first | rfl | (simp [errW_none, errW_some] <;> rfl) | (simp [*, errW_none, errW_some] <;> rfl), by exact bel0⟩

/-! ### laws_eqLocal: function 9 -/
def laws_eqLocal.f (k : Nat) (l0_0 : List Int) (l0_1 : List (S43)) (l1_0 : List Int) (l1_1 : List (S43)) : Option (Bool) := (laws_eqByteS.f k l0_0 l1_0).bind fun t280 => (if t280 = true then ((laws_eqServiceS.f k l0_1 l1_1).bind fun t281 => (if t281 = true then (some true) else (some false))) else (some false))
theorem laws_eqLocal.mono : ∀ a0 a1 a2 a3 k, LeO (laws_eqLocal.f k a0 a1 a2 a3) (laws_eqLocal.f (k + 1) a0 a1 a2 a3) := by
 intro a0 a1 a2 a3 k
 unfold laws_eqLocal.f
 repeat' first
   | (with_reducible exact laws_eqByteS.mono _ _ _)
   | (with_reducible exact laws_eqServiceS.mono _ _ _)
   | (with_reducible exact LeO.refl _)
   | (with_reducible exact LeO.none _)
   | (with_reducible refine LeO.ite ?_ ?_)
   | (with_reducible refine LeO.bind ?_ (fun _ => ?_))
   | exact laws_eqByteS.mono _ _ _
   | exact laws_eqServiceS.mono _ _ _
   | exact LeO.none _
   | refine LeO.ite ?_ ?_
   | refine LeO.bind ?_ (fun _ => ?_)
set_option maxHeartbeats 8000000 in
set_option maxRecDepth 100000 in
theorem laws_eqLocal.calls (k : Nat) (A0_0 : Option Addr) (c0_0 : Nat) (l0_0 : List Int) (A0_1 : Option Addr) (c0_1 : Nat) (l0_1 : List (S43)) (A1_0 : Option Addr) (c1_0 : Nat) (l1_0 : List Int) (A1_1 : Option Addr) (c1_1 : Nat) (l1_1 : List (S43)) (r : Bool) (w : World) (hr0_0 : Kd.C (Kd.int .u8) w A0_0 l0_0.length l0_0) (hc0_0 : l0_0.length ≤ c0_0) (hr0_1 : Kd.C k43 w A0_1 l0_1.length l0_1) (hc0_1 : l0_1.length ≤ c0_1) (hr1_0 : Kd.C (Kd.int .u8) w A1_0 l1_0.length l1_0) (hc1_0 : l1_0.length ≤ c1_0) (hr1_1 : Kd.C k43 w A1_1 l1_1.length l1_1) (hc1_1 : l1_1.length ≤ c1_1) (h : laws_eqLocal.f k l0_0 l0_1 l1_0 l1_1 = some r) :
  Calls Try.prog 9 #[.agg #[.slice A0_0 l0_0.length c0_0, .slice A0_1 l0_1.length c0_1], .agg #[.slice A1_0 l1_0.length c1_0, .slice A1_1 l1_1.length c1_1]] w fun e w' => e = .returned (.bool r) ∧ Below w.heap.size w w' := by
 have hu30 := Try.underlying30
 have HR0_0 := Aside0.mk hr0_0; have HC0_0 := Aside0.mk hc0_0; clear hr0_0 hc0_0; have HR0_1 := Aside0.mk hr0_1; have HC0_1 := Aside0.mk hc0_1; clear hr0_1 hc0_1; have HR1_0 := Aside0.mk hr1_0; have HC1_0 := Aside0.mk hc1_0; clear hr1_0 hc1_0; have HR1_1 := Aside0.mk hr1_1; have HC1_1 := Aside0.mk hc1_1; clear hr1_1 hc1_1
 have HB := Aside0.mk (Below.refl w.heap.size w)
 have H : ((laws_eqByteS.f k l0_0 l1_0).bind fun t280 => (if t280 = true then ((laws_eqServiceS.f k l0_1 l1_1).bind fun t281 => (if t281 = true then (some true) else (some false))) else (some false))) = some r := h
 clear h; replace H := Option.bind_eq_some_iff.mp H; obtain ⟨t280, A30, H⟩ := H; have A3 := Aside0.mk A30; clear A30; go_enter Try.func9, Try.ntmps9
 replace H := Aside0.mk H
 go_wp2_with (first | ((with_reducible refine gate_dst (N := 2) rfl ?_); refine box_event ?hg (N := 2) ?hd (cs := #[.slice A0_0 l0_0.length c0_0, .slice A0_1 l0_1.length c0_1]) (t := 30) ?hr ?_; (case hd => rfl); (case hg => rfl); (case hr => first | (go_simp; done) | (go_simp; rfl)); intro gb278 hg w4 hbox hb; have n_ := an (below_step (by exact bel0) hb) (an (hbox) (an ((by rw [hg]; exact (below_size (by exact bel0)) : w.heap.size ≤ gb278)) (an ((by rw [hg]; exact (below_size (by exact bel0)) : w.heap.size ≤ gb278)) (trivial)))); clear HB; obtain ⟨HB, BK278, GW278, GE278, -⟩ := n_; clear hb hbox hg) | ((with_reducible refine gate_dst (N := 3) rfl ?_); refine box_event ?hg (N := 3) ?hd (cs := #[.slice A1_0 l1_0.length c1_0, .slice A1_1 l1_1.length c1_1]) (t := 30) ?hr ?_; (case hd => rfl); (case hg => rfl); (case hr => first | (go_simp; done) | (go_simp; rfl)); intro gb279 hg w5 hbox hb; have n_ := an (blk_below (blk_nw BK278.out) hb) (an (below_step (by exact bel0) hb) (an (hbox) (an ((by rw [hg]; exact (below_size (by exact bel0)) : w.heap.size ≤ gb279)) (an ((by rw [hg]; exact (below_size (by exact bel0)) : w.heap.size ≤ gb279)) (an ((by rw [hg]; exact Nat.ne_of_lt (blk_lt (blk_nw BK278.out)) : gb278 ≠ gb279)) (an ((by rw [hg]; exact Nat.ne_of_gt (blk_lt (blk_nw BK278.out)) : gb279 ≠ gb278)) (trivial))))))); clear BK278 HB; obtain ⟨BK278, HB, BK279, GW279, GE279, NB278_279, NB279_278, -⟩ := n_; clear hb hbox hg; have hnb6 := NB278_279.out; have hnc6 := NB279_278.out; obtain ⟨hcz7_0, hcz7_1⟩ := blkz2 BK278.out; have hfz7_0 := blkf BK278.out; obtain ⟨hcz8_0, hcz8_1⟩ := blkz2 BK279.out; have hfz8_0 := blkf BK279.out) | ((with_reducible refine gate_callee (f := 27) rfl ?_); refine goesL_ (some 9) rfl rfl Try.func27 (by kernel_rfl) rfl #[.slice A0_0 l0_0.length c0_0, .slice A1_0 l1_0.length c1_0] rfl (by (try simp only [List.map_toArray, List.map_cons, List.map_nil]); first | done | rfl | (simp only [List.length_drop, List.length_take]; rfl)) ?_; (with_reducible refine (laws_eqByteS.calls k _ _ l0_0 _ _ l1_0 t280 _ ?side1 ?side2 ?side3 ?side4 A3.out).mono ?_); (case side1 => repeat (first | exact (Kd.C_below HR0_0.out HB.out) | (with_reducible refine Kd.C_alloc ?_ _) | (with_reducible refine Kd.C_drewN ?_ _) | (with_reducible refine Kd.C_drew ?_))); (case side2 => exact HC0_0.out); (case side3 => repeat (first | exact (Kd.C_below HR1_0.out HB.out) | (with_reducible refine Kd.C_alloc ?_ _) | (with_reducible refine Kd.C_drewN ?_ _) | (with_reducible refine Kd.C_drew ?_))); (case side4 => exact HC1_0.out); rintro e w' ⟨rfl, ⟨nd, rfl⟩⟩; refine ⟨_, rfl, ?_⟩; refine Stop.out ?_))
 refine Stop.mk ?_
 replace H := H.out
 by_cases c9 : t280 = true
 ·subst c9; rw [if_pos rfl] at H; replace H := Option.bind_eq_some_iff.mp H; obtain ⟨t281, A100, H⟩ := H; have A10 := Aside0.mk A100; clear A100; have hnb11 := NB278_279.out; have hnc11 := NB279_278.out; obtain ⟨hcz12_0, hcz12_1⟩ := blkz2 BK278.out; have hfz12_0 := blkf BK278.out; obtain ⟨hcz13_0, hcz13_1⟩ := blkz2 BK279.out; have hfz13_0 := blkf BK279.out
  replace H := Aside0.mk H
  go_wp2_with (first | ((with_reducible refine gate_callee (f := 28) rfl ?_); refine goesL_ (some 15) rfl rfl Try.func28 (by kernel_rfl) rfl #[.slice A0_1 l0_1.length c0_1, .slice A1_1 l1_1.length c1_1] rfl (by (try simp only [List.map_toArray, List.map_cons, List.map_nil]); first | done | rfl | (simp only [List.length_drop, List.length_take]; rfl)) ?_; (with_reducible refine (laws_eqServiceS.calls k _ _ l0_1 _ _ l1_1 t281 _ ?side1 ?side2 ?side3 ?side4 A10.out).mono ?_); (case side1 => repeat (first | exact (Kd.C_below HR0_1.out HB.out) | (with_reducible refine Kd.C_alloc ?_ _) | (with_reducible refine Kd.C_drewN ?_ _) | (with_reducible refine Kd.C_drew ?_))); (case side2 => exact HC0_1.out); (case side3 => repeat (first | exact (Kd.C_below HR1_1.out HB.out) | (with_reducible refine Kd.C_alloc ?_ _) | (with_reducible refine Kd.C_drewN ?_ _) | (with_reducible refine Kd.C_drew ?_))); (case side4 => exact HC1_1.out); rintro e w14 ⟨rfl, hb⟩; refine ⟨_, rfl, ?_⟩; have n_ := an (blk_below (blk_nw BK278.out) hb) (an (blk_below (blk_nw BK279.out) hb) (an (below_step (by exact bel0) hb) (trivial))); clear BK278 BK279 HB; obtain ⟨BK278, BK279, HB, -⟩ := n_; (try clear hb); (try clear hb2); (try clear hk); (try clear hi); refine Stop.out ?_))
  refine Stop.mk ?_
  replace H := H.out
  by_cases c15 : t281 = true
  ·subst c15; rw [if_pos rfl] at H
   obtain rfl := Option.some.inj H
   go_wp2
   go_ret
   exact ⟨by first | rfl | (simp [errW_none, errW_some] <;> rfl) | (simp [*, errW_none, errW_some] <;> rfl), by exact bel0⟩
  ·replace c15 := Bool.eq_false_iff.mpr c15
   subst c15
   rw [if_neg (show ¬ (false = true) by decide)] at H
   obtain rfl := Option.some.inj H
   go_wp2
   go_ret
   exact ⟨by first | rfl | (simp [errW_none, errW_some] <;> rfl) | (simp [*, errW_none, errW_some] <;> rfl), by exact bel0⟩
 ·replace c9 := Bool.eq_false_iff.mpr c9
  subst c9
  rw [if_neg (show ¬ (false = true) by decide)] at H
  obtain rfl := Option.some.inj H
  go_wp2
  go_ret
  exact ⟨by first | rfl | (simp [errW_none, errW_some] <;> rfl) | (simp [*, errW_none, errW_some] <;> rfl), by exact bel0⟩

/-! ### laws_FnExactLocalOk: function 3 -/
def laws_FnExactLocalOk.f (k : Nat) (l0_0 : List Int) (l0_1 : List (S64)) : Option (Bool) := (laws_szLocal.f k l0_0 l0_1 1048576).bind fun t283 => (if t283 < 0 then (some true) else ((laws_toLocal.f k l0_0 l0_1).bind fun bt284 => ((spec_LocalOk.f k bt284.1 bt284.2).bind fun t290 => ((laws_toLocal.f k l0_0 l0_1).bind fun bt291 => ((impl_LocalOk.f k bt291.1 bt291.2).bind fun t298 => (if (t298 != t290) = true then (some false) else ((laws_toLocal.f k l0_0 l0_1).bind fun bt299 => ((laws_eqLocal.f k bt291.1 bt291.2 bt299.1 bt299.2).bind fun t305 => (if t305 = true then (some true) else (some false))))))))))
theorem laws_FnExactLocalOk.mono : ∀ a0 a1 k, LeO (laws_FnExactLocalOk.f k a0 a1) (laws_FnExactLocalOk.f (k + 1) a0 a1) := by
 intro a0 a1 k
 unfold laws_FnExactLocalOk.f
 repeat' first
   | (with_reducible exact impl_LocalOk.mono _ _ _)
   | (with_reducible exact laws_eqLocal.mono _ _ _ _ _)
   | (with_reducible exact laws_szLocal.mono _ _ _ _)
   | (with_reducible exact laws_toLocal.mono _ _ _)
   | (with_reducible exact spec_LocalOk.mono _ _ _)
   | (with_reducible exact LeO.refl _)
   | (with_reducible exact LeO.none _)
   | (with_reducible refine LeO.ite ?_ ?_)
   | (with_reducible refine LeO.bind ?_ (fun _ => ?_))
   | exact impl_LocalOk.mono _ _ _
   | exact laws_eqLocal.mono _ _ _ _ _
   | exact laws_szLocal.mono _ _ _ _
   | exact laws_toLocal.mono _ _ _
   | exact spec_LocalOk.mono _ _ _
   | exact LeO.none _
   | refine LeO.ite ?_ ?_
   | refine LeO.bind ?_ (fun _ => ?_)
set_option maxHeartbeats 8000000 in
set_option maxRecDepth 100000 in
theorem laws_FnExactLocalOk.calls (k : Nat) (A0_0 : Option Addr) (c0_0 : Nat) (l0_0 : List Int) (A0_1 : Option Addr) (c0_1 : Nat) (l0_1 : List (S64)) (r : Bool) (w : World) (hr0_0 : Kd.C (Kd.int .u8) w A0_0 l0_0.length l0_0) (hc0_0 : l0_0.length ≤ c0_0) (hr0_1 : Kd.C k64 w A0_1 l0_1.length l0_1) (hc0_1 : l0_1.length ≤ c0_1) (h : laws_FnExactLocalOk.f k l0_0 l0_1 = some r) :
  Calls Try.prog 3 #[.agg #[.slice A0_0 l0_0.length c0_0, .slice A0_1 l0_1.length c0_1]] w fun e w' => e = .returned (.bool r) ∧ Below w.heap.size w w' := by
 have hu25 := Try.underlying25
 have hu30 := Try.underlying30
 have HR0_0 := Aside0.mk hr0_0; have HC0_0 := Aside0.mk hc0_0; clear hr0_0 hc0_0; have HR0_1 := Aside0.mk hr0_1; have HC0_1 := Aside0.mk hc0_1; clear hr0_1 hc0_1
 have HB := Aside0.mk (Below.refl w.heap.size w)
 have H : ((laws_szLocal.f k l0_0 l0_1 1048576).bind fun t283 => (if t283 < 0 then (some true) else ((laws_toLocal.f k l0_0 l0_1).bind fun bt284 => ((spec_LocalOk.f k bt284.1 bt284.2).bind fun t290 => ((laws_toLocal.f k l0_0 l0_1).bind fun bt291 => ((impl_LocalOk.f k bt291.1 bt291.2).bind fun t298 => (if (t298 != t290) = true then (some false) else ((laws_toLocal.f k l0_0 l0_1).bind fun bt299 => ((laws_eqLocal.f k bt291.1 bt291.2 bt299.1 bt299.2).bind fun t305 => (if t305 = true then (some true) else (some false))))))))))) = some r := h
 clear h; replace H := Option.bind_eq_some_iff.mp H; obtain ⟨t283, A20, H⟩ := H; have A2 := Aside0.mk A20; clear A20; go_enter Try.func3, Try.ntmps3
 replace H := Aside0.mk H
 go_wp2_with (first | ((with_reducible refine gate_dst (N := 1) rfl ?_); refine box_event ?hg (N := 1) ?hd (cs := #[.slice A0_0 l0_0.length c0_0, .slice A0_1 l0_1.length c0_1]) (t := 25) ?hr ?_; (case hd => rfl); (case hg => rfl); (case hr => first | (go_simp; done) | (go_simp; rfl)); intro gb282 hg w3 hbox hb; have n_ := an (below_step (by exact bel0) hb) (an (hbox) (an ((by rw [hg]; exact (below_size (by exact bel0)) : w.heap.size ≤ gb282)) (an ((by rw [hg]; exact (below_size (by exact bel0)) : w.heap.size ≤ gb282)) (trivial)))); clear HB; obtain ⟨HB, BK282, GW282, GE282, -⟩ := n_; clear hb hbox hg; obtain ⟨hcz4_0, hcz4_1⟩ := blkz2 BK282.out; have hfz4_0 := blkf BK282.out) | ((with_reducible refine gate_callee (f := 5) rfl ?_); refine goesL_ (some 9) rfl rfl Try.func5 (by kernel_rfl) rfl #[.agg #[.slice A0_0 l0_0.length c0_0, .slice A0_1 l0_1.length c0_1], .int .i64 1048576] rfl (by (try simp only [List.map_toArray, List.map_cons, List.map_nil]); first | done | rfl | (simp only [List.length_drop, List.length_take]; rfl)) ?_; (with_reducible refine (laws_szLocal.calls k _ _ l0_0 _ _ l0_1 1048576 t283 _ ?side1 ?side2 ?side3 ?side4 A2.out).mono ?_); (case side1 => repeat (first | exact (Kd.C_below HR0_0.out HB.out) | (with_reducible refine Kd.C_alloc ?_ _) | (with_reducible refine Kd.C_drewN ?_ _) | (with_reducible refine Kd.C_drew ?_))); (case side2 => exact HC0_0.out); (case side3 => repeat (first | exact (Kd.C_below HR0_1.out HB.out) | (with_reducible refine Kd.C_alloc ?_ _) | (with_reducible refine Kd.C_drewN ?_ _) | (with_reducible refine Kd.C_drew ?_))); (case side4 => exact HC0_1.out); rintro e w5 ⟨rfl, hb⟩; refine ⟨_, rfl, ?_⟩; have n_ := an (blk_below (blk_nw BK282.out) hb) (an (below_step (by exact bel0) hb) (trivial)); clear BK282 HB; obtain ⟨BK282, HB, -⟩ := n_; (try clear hb); (try clear hb2); (try clear hk); (try clear hi); refine Stop.out ?_))
 refine Stop.mk ?_
 replace H := H.out
 by_cases c6 : t283 < 0
 ·rw [if_pos c6] at H; have c6b0 : decide (t283 < 0) = true := decide_eq_true c6; clear c6; (try simp only [c6b0])
  obtain rfl := Option.some.inj H
  go_wp2
  go_ret
  exact ⟨by first | rfl | (simp [errW_none, errW_some] <;> rfl) | (simp [*, errW_none, errW_some] <;> rfl), by exact bel0⟩
 ·rw [if_neg c6] at H; have c6b0 : decide (t283 < 0) = false := decide_eq_false c6; clear c6; (try simp only [c6b0]); replace H := Option.bind_eq_some_iff.mp H
  obtain ⟨⟨t284, t287⟩, A70, H⟩ := H
  replace H : ((spec_LocalOk.f k t284 t287).bind fun t290 => ((laws_toLocal.f k l0_0 l0_1).bind fun bt291 => ((impl_LocalOk.f k bt291.1 bt291.2).bind fun t298 => (if (t298 != t290) = true then (some false) else ((laws_toLocal.f k l0_0 l0_1).bind fun bt299 => ((laws_eqLocal.f k bt291.1 bt291.2 bt299.1 bt299.2).bind fun t305 => (if t305 = true then (some true) else (some false)))))))) = some r := H
  have A7 := Aside0.mk A70; clear A70; replace H := Option.bind_eq_some_iff.mp H; obtain ⟨t290, A80, H⟩ := H; have A8 := Aside0.mk A80; clear A80; replace H := Option.bind_eq_some_iff.mp H
  obtain ⟨⟨t291, t294⟩, A90, H⟩ := H
  replace H : ((impl_LocalOk.f k t291 t294).bind fun t298 => (if (t298 != t290) = true then (some false) else ((laws_toLocal.f k l0_0 l0_1).bind fun bt299 => ((laws_eqLocal.f k t291 t294 bt299.1 bt299.2).bind fun t305 => (if t305 = true then (some true) else (some false)))))) = some r := H
  have A9 := Aside0.mk A90; clear A90; replace H := Option.bind_eq_some_iff.mp H; obtain ⟨t298, A100, H⟩ := H; have A10 := Aside0.mk A100; clear A100; obtain ⟨hcz11_0, hcz11_1⟩ := blkz2 BK282.out; have hfz11_0 := blkf BK282.out
  replace H := Aside0.mk H
  go_wp2_with (first | ((with_reducible refine gate_callee (f := 7) rfl ?_); refine goesL_ (some 13) rfl rfl Try.func7 (by kernel_rfl) rfl #[.agg #[.slice A0_0 l0_0.length c0_0, .slice A0_1 l0_1.length c0_1]] rfl (by (try simp only [List.map_toArray, List.map_cons, List.map_nil]); first | done | rfl | (simp only [List.length_drop, List.length_take]; rfl)) ?_; (with_reducible refine (laws_toLocal.calls k _ _ l0_0 _ _ l0_1 t284 t287 _ ?side1 ?side2 ?side3 ?side4 A7.out).mono ?_); (case side1 => repeat (first | exact (Kd.C_below HR0_0.out HB.out) | (with_reducible refine Kd.C_alloc ?_ _) | (with_reducible refine Kd.C_drewN ?_ _) | (with_reducible refine Kd.C_drew ?_))); (case side2 => exact HC0_0.out); (case side3 => repeat (first | exact (Kd.C_below HR0_1.out HB.out) | (with_reducible refine Kd.C_alloc ?_ _) | (with_reducible refine Kd.C_drewN ?_ _) | (with_reducible refine Kd.C_drew ?_))); (case side4 => exact HC0_1.out); rintro e w12 ⟨v285, v288, rfl, ho0, ho1, hb⟩; refine ⟨_, rfl, ?_⟩; have n_ := an (Kd.R_lower ho0 (below_size (by exact bel0))) (an (Kd.R_lower ho1 (below_size (by exact bel0))) (an (blk_below (blk_nw BK282.out) hb) (an (below_step (by exact bel0) hb) (trivial)))); clear BK282 HB; obtain ⟨HO286, HO289, BK282, HB, -⟩ := n_; (try clear hb); (try clear hb2); (try clear hk); (try clear hi); (try clear ho0); (try clear ho1); obtain ⟨Ao13, co13, eo13⟩ := Kd.R_slice HO286.out; subst eo13; obtain ⟨Ao14, co14, eo14⟩ := Kd.R_slice HO289.out; subst eo14) | ((with_reducible refine gate_callee (f := 6) rfl ?_); refine goesL_ (some 14) rfl rfl Try.func6 (by kernel_rfl) rfl #[.agg #[.slice Ao13 t284.length co13, .slice Ao14 t287.length co14]] rfl (by (try simp only [List.map_toArray, List.map_cons, List.map_nil]); first | done | rfl | (simp only [List.length_drop, List.length_take]; rfl)) ?_; (with_reducible refine (spec_LocalOk.calls k _ _ t284 _ _ t287 t290 _ ?side1 ?side2 ?side3 ?side4 A8.out).mono ?_); (case side1 => repeat (first | exact (Kd.R_reads' HO286.out).2.2 | (with_reducible refine Kd.C_alloc ?_ _) | (with_reducible refine Kd.C_drewN ?_ _) | (with_reducible refine Kd.C_drew ?_))); (case side2 => exact (Kd.R_reads' HO286.out).2.1); (case side3 => repeat (first | exact (Kd.R_reads' HO289.out).2.2 | (with_reducible refine Kd.C_alloc ?_ _) | (with_reducible refine Kd.C_drewN ?_ _) | (with_reducible refine Kd.C_drew ?_))); (case side4 => exact (Kd.R_reads' HO289.out).2.1); rintro e w15 ⟨rfl, hb⟩; refine ⟨_, rfl, ?_⟩; have n_ := an (Kd.R_below (by exact Kd.R_nw HO286.out) hb) (an (Kd.R_below (by exact Kd.R_nw HO289.out) hb) (an (blk_below (blk_nw BK282.out) hb) (an (below_step (by exact bel0) hb) (trivial)))); clear HO286 HO289 BK282 HB; obtain ⟨HO286, HO289, BK282, HB, -⟩ := n_; (try clear hb); (try clear hb2); (try clear hk); (try clear hi); obtain ⟨hcz16_0, hcz16_1⟩ := blkz2 BK282.out; have hfz16_0 := blkf BK282.out) | ((with_reducible refine gate_callee (f := 7) rfl ?_); refine goesL_ (some 16) rfl rfl Try.func7 (by kernel_rfl) rfl #[.agg #[.slice A0_0 l0_0.length c0_0, .slice A0_1 l0_1.length c0_1]] rfl (by (try simp only [List.map_toArray, List.map_cons, List.map_nil]); first | done | rfl | (simp only [List.length_drop, List.length_take]; rfl)) ?_; (with_reducible refine (laws_toLocal.calls k _ _ l0_0 _ _ l0_1 t291 t294 _ ?side1 ?side2 ?side3 ?side4 A9.out).mono ?_); (case side1 => repeat (first | exact (Kd.C_below HR0_0.out HB.out) | (with_reducible refine Kd.C_alloc ?_ _) | (with_reducible refine Kd.C_drewN ?_ _) | (with_reducible refine Kd.C_drew ?_))); (case side2 => exact HC0_0.out); (case side3 => repeat (first | exact (Kd.C_below HR0_1.out HB.out) | (with_reducible refine Kd.C_alloc ?_ _) | (with_reducible refine Kd.C_drewN ?_ _) | (with_reducible refine Kd.C_drew ?_))); (case side4 => exact HC0_1.out); rintro e w17 ⟨v292, v295, rfl, ho0, ho1, hb⟩; refine ⟨_, rfl, ?_⟩; have n_ := an (Kd.R_elder' (by exact Kd.R_nw HO286.out) (Kd.R_base ho0) hb) (an (Kd.R_mono (Kd.R_told (Kd.R_told (Kd.R_old (by exact Kd.R_nw HO289.out) hb) (Kd.R_base ho0)) (Kd.R_base ho1)) (fun _ h_ => h_.1)) (an (Kd.R_lower (Kd.R_new' ho0 (Kd.R_lt (by exact Kd.R_nw HO286.out))) (below_size (by exact bel0))) (an (Kd.R_lower (Kd.R_new' (Kd.R_new' ho1 (Kd.R_lt (by exact Kd.R_nw HO286.out))) (Kd.R_lt (by exact Kd.R_nw HO289.out))) (below_size (by exact bel0))) (an (blk_below (blk_nw BK282.out) hb) (an (below_step (by exact bel0) hb) (trivial)))))); clear HO286 HO289 BK282 HB; obtain ⟨HO286, HO289, HO293, HO296, BK282, HB, -⟩ := n_; (try clear hb); (try clear hb2); (try clear hk); (try clear hi); (try clear ho0); (try clear ho1)) | ((with_reducible refine gate_dst (N := 5) rfl ?_); refine box_event ?hg (N := 5) ?hd (cs := #[.slice none 0 0, .slice none 0 0]) (t := 30) ?hr ?_; (case hd => rfl); (case hg => rfl); (case hr => first | (go_simp; done) | (go_simp; rfl)); intro gb297 hg w18 hbox hb; have n_ := an (Kd.R_below (by exact Kd.R_nw HO286.out) hb) (an (Kd.R_below (by exact Kd.R_nw HO289.out) hb) (an (Kd.R_below (by exact Kd.R_nw HO293.out) hb) (an (Kd.R_below (by exact Kd.R_nw HO296.out) hb) (an (blk_below (blk_nw BK282.out) hb) (an (below_step (by exact bel0) hb) (an (hbox) (an ((by rw [hg]; exact (below_size (by exact bel0)) : w.heap.size ≤ gb297)) (an ((by rw [hg]; exact (below_size (by exact bel0)) : w.heap.size ≤ gb297)) (an ((by rw [hg]; exact Nat.ne_of_lt (blk_lt (blk_nw BK282.out)) : gb282 ≠ gb297)) (an ((by rw [hg]; exact Nat.ne_of_gt (blk_lt (blk_nw BK282.out)) : gb297 ≠ gb282)) (trivial))))))))))); clear HO286 HO289 HO293 HO296 BK282 HB; obtain ⟨HO286, HO289, HO293, HO296, BK282, HB, BK297, GW297, GE297, NB282_297, NB297_282, -⟩ := n_; clear hb hbox hg; obtain ⟨Ao19, co19, eo19⟩ := Kd.R_slice HO293.out; subst eo19; have hnb20 := NB297_282.out; have hnc20 := NB282_297.out; obtain ⟨hcz21_0, hcz21_1⟩ := blkz2 BK297.out; have hfz21_0 := blkf BK297.out; obtain ⟨Ao22, co22, eo22⟩ := Kd.R_slice HO296.out; subst eo22) | ((with_reducible refine gate_callee (f := 8) rfl ?_); refine goesL_ (some 18) rfl rfl Try.func8 (by kernel_rfl) rfl #[.agg #[.slice Ao19 t291.length co19, .slice Ao22 t294.length co22]] rfl (by (try simp only [List.map_toArray, List.map_cons, List.map_nil]); first | done | rfl | (simp only [List.length_drop, List.length_take]; rfl)) ?_; (with_reducible refine (impl_LocalOk.calls k _ _ t291 _ _ t294 t298 _ ?side1 ?side2 ?side3 ?side4 A10.out).mono ?_); (case side1 => refine (Kd.R_reads' (e := 5) (base := w.heap.size) (ok := fun k_ => (True ∧ some k_ ≠ (.slice Ao13 t284.length co13 : Value).ownBlock)) (n := t291.length) (c := co19) ?_).2.2; exact (by exact (Kd.R_farN HO293.out BK297.out))); (case side2 => exact (Kd.R_reads' HO293.out).2.1); (case side3 => refine (Kd.R_reads' (e := 43) (base := w.heap.size) (ok := fun k_ => ((some k_ ≠ (.slice Ao19 t291.length co19 : Value).ownBlock ∧ some k_ ≠ (.slice Ao13 t284.length co13 : Value).ownBlock) ∧ some k_ ≠ (.slice Ao14 t287.length co14 : Value).ownBlock)) (n := t294.length) (c := co22) ?_).2.2; exact (by exact (Kd.R_farN HO296.out BK297.out))); (case side4 => exact (Kd.R_reads' HO296.out).2.1); rintro e w23 ⟨rfl, hb⟩; refine ⟨_, rfl, ?_⟩; have n_ := an (Kd.R_below (by exact (Kd.R_farN HO286.out BK297.out)) hb) (an (Kd.R_below (by exact (Kd.R_farN HO289.out BK297.out)) hb) (an (Kd.R_below (by exact (Kd.R_farN HO293.out BK297.out)) hb) (an (Kd.R_below (by exact (Kd.R_farN HO296.out BK297.out)) hb) (an (blk_below (blk_kb BK282.out NB282_297.out) hb) (an (blk_below (g := gb297) (o := .cells #[.slice Ao19 t291.length co19, .slice Ao22 t294.length co22] 30 (0, 0)) (by (with_reducible repeat (first | refine blk_drewN ?_ _ | refine blk_drew ?_ | refine blk_alloc ?_ _)); exact blk_fill2 BK297.out) hb) (an (below_step (by exact bel0) hb) (trivial))))))); clear HO286 HO289 HO293 HO296 BK282 BK297 HB; obtain ⟨HO286, HO289, HO293, HO296, BK282, BK297, HB, -⟩ := n_; (try clear hb); (try clear hb2); (try clear hk); (try clear hi); refine Stop.out ?_))
  refine Stop.mk ?_
  replace H := H.out
  by_cases c24 : (t298 != t290) = true
  ·rw [if_pos c24] at H
   have c24b0 : (t298 != t290) = true := c24
   (try (have c24b1 : decide (t298 = t290) = false := by simpa using c24))
   (try (have c24b2 : (t298 == t290) = false := by simpa using c24))
   (try (have c24b3 : ¬ (t298 = t290) := by simpa using c24))
   clear c24
   obtain rfl := Option.some.inj H
   go_wp2
   go_ret
   exact ⟨by first | rfl | (simp [errW_none, errW_some] <;> rfl) | (simp [*, errW_none, errW_some] <;> rfl), by exact bel0⟩
  ·rw [if_neg c24] at H
   have c24b0 : (t298 != t290) = false := by simpa using c24
   (try (have c24b1 : decide (t298 = t290) = true := by simpa using c24))
   (try (have c24b2 : (t298 == t290) = true := by simpa using c24))
   clear c24; replace H := Option.bind_eq_some_iff.mp H
   obtain ⟨⟨t299, t302⟩, A250, H⟩ := H
   replace H : ((laws_eqLocal.f k t291 t294 t299 t302).bind fun t305 => (if t305 = true then (some true) else (some false))) = some r := H
   have A25 := Aside0.mk A250; clear A250; replace H := Option.bind_eq_some_iff.mp H; obtain ⟨t305, A260, H⟩ := H; have A26 := Aside0.mk A260; clear A260
   replace H := Aside0.mk H
   try go_wp2
   have n_ := an (Kd.R_drew HO286.out) (an (Kd.R_drew HO289.out) (an (Kd.R_drew HO293.out) (an (Kd.R_drew HO296.out) (an (blk_drew BK282.out) (an (blk_drew BK297.out) (an (below_drew1 HB.out) (trivial)))))))
   clear HO286 HO289 HO293 HO296 BK282 BK297 HB
   obtain ⟨HO286, HO289, HO293, HO296, BK282, BK297, HB, -⟩ := n_
   refine start_ (n := 5) (S := fun w' => w'.cell? ⟨gb297, 0, none⟩ = some (.slice Ao19 t291.length co19) ∧ w'.cell? ⟨gb297, 1, none⟩ = some (.slice Ao22 t294.length co22) ∧ w'.cell? ⟨gb282, 0, none⟩ = some (.slice A0_0 l0_0.length c0_0) ∧ w'.cell? ⟨gb282, 1, none⟩ = some (.slice A0_1 l0_1.length c0_1)) (ds := []) #[false, false, false, false, false] (by kernel_rfl) rfl rfl ⟨(blk_cell BK297.out 0).trans rfl, (blk_cell BK297.out 1).trans rfl, (blk_cell BK282.out 0).trans rfl, (blk_cell BK282.out 1).trans rfl⟩ (fun hHeld => ?_)
   generalize w23.drew = w27 at HO286 HO289 HO293 HO296 BK282 BK297 HB hHeld ⊢
   refine take_ (i := 0) (N := some 22) (v := ?_) (a' := ?_) #[true, false, false, false, false] rfl rfl (by kernel_rfl) (fun _ _ _ h => h) (Or.inl ⟨by rfl, ?_⟩) hHeld ?_ ?_
   rotate_left
   ·rintro w' ⟨s0, s1, s2, s3⟩
    go_simp
    with_reducible rfl
   rotate_left
   ·simp only [Act.put, List.setIfInBounds_toArray, List.set_cons_zero, List.set_cons_succ, i64_w, i32_w]
    rfl
   refine take_ (i := 1) (N := some 23) (v := ?_) (a' := ?_) #[true, true, false, false, false] rfl rfl (by kernel_rfl) (fun _ _ _ h => h) (Or.inl ⟨by rfl, ?_⟩) hHeld ?_ ?_
   rotate_left
   ·rintro w' ⟨s0, s1, s2, s3⟩
    go_simp
    with_reducible rfl
   rotate_left
   ·simp only [Act.put, List.setIfInBounds_toArray, List.set_cons_zero, List.set_cons_succ, i64_w, i32_w]
    rfl
   refine one_ (i := 2) (N := some 24) #[true, true, true, false, false] rfl rfl (by kernel_rfl) (by decide) (fun K hK => ?_)
   refine goes_ Try.func7 (by kernel_rfl) rfl #[.agg #[.slice A0_0 l0_0.length c0_0, .slice A0_1 l0_1.length c0_1]] (by rfl) rfl rfl (by (try simp only [List.map_toArray, List.map_cons, List.map_nil]); first | done | rfl | (simp only [List.length_drop, List.length_take]; rfl)) ?_
   with_reducible refine (laws_toLocal.calls k _ _ l0_0 _ _ l0_1 t299 t302 _ ?side1 ?side2 ?side3 ?side4 A25.out).mono ?_
   (case side1 => repeat (first | exact (Kd.C_below HR0_0.out HB.out) | (with_reducible refine Kd.C_alloc ?_ _) | (with_reducible refine Kd.C_drewN ?_ _) | (with_reducible refine Kd.C_drew ?_)))
   (case side2 => exact HC0_0.out)
   (case side3 => repeat (first | exact (Kd.C_below HR0_1.out HB.out) | (with_reducible refine Kd.C_alloc ?_ _) | (with_reducible refine Kd.C_drewN ?_ _) | (with_reducible refine Kd.C_drew ?_)))
   (case side4 => exact HC0_1.out)
   rintro e w28 ⟨v300, v303, rfl, ho0, ho1, hb⟩
   refine ⟨_, rfl, ?_⟩
   have n_ := an (Kd.R_elder' (by exact Kd.R_nw HO286.out) (Kd.R_base ho0) hb) (an (Kd.R_mono (Kd.R_told (Kd.R_told (Kd.R_old (by exact Kd.R_nw HO289.out) hb) (Kd.R_base ho0)) (Kd.R_base ho1)) (fun _ h_ => h_.1)) (an (Kd.R_elder' (by exact Kd.R_nw HO293.out) (Kd.R_base ho0) hb) (an (Kd.R_mono (Kd.R_told (Kd.R_told (Kd.R_old (by exact Kd.R_nw HO296.out) hb) (Kd.R_base ho0)) (Kd.R_base ho1)) (fun _ h_ => h_.1)) (an (Kd.R_lower (Kd.R_new' (Kd.R_new' ho0 (Kd.R_lt (by exact Kd.R_nw HO286.out))) (Kd.R_lt (by exact Kd.R_nw HO293.out))) (below_size (by exact bel0))) (an (Kd.R_lower (Kd.R_new' (Kd.R_new' (Kd.R_new' (Kd.R_new' ho1 (Kd.R_lt (by exact Kd.R_nw HO286.out))) (Kd.R_lt (by exact Kd.R_nw HO289.out))) (Kd.R_lt (by exact Kd.R_nw HO293.out))) (Kd.R_lt (by exact Kd.R_nw HO296.out))) (below_size (by exact bel0))) (an (blk_below (blk_nw BK282.out) hb) (an (blk_below (blk_nw BK297.out) hb) (an (below_step (by exact bel0) hb) (trivial)))))))))
   clear HO286 HO289 HO293 HO296 BK282 BK297 HB
   obtain ⟨HO286, HO289, HO293, HO296, HO301, HO304, BK282, BK297, HB, -⟩ := n_
   (try clear hb); (try clear hb2); (try clear hk); (try clear hi); (try clear ho0); (try clear ho1)
   obtain ⟨Ao29, co29, eo29⟩ := Kd.R_slice HO301.out
   (first | subst eo29 | (injection eo29 with f1_ f2_ f3_; have f4_ := f1_.symm; have f5_ := f3_.symm; clear f1_ f2_ f3_; subst f4_; subst f5_))
   obtain ⟨Ao30, co30, eo30⟩ := Kd.R_slice HO304.out
   (first | subst eo30 | (injection eo30 with f1_ f2_ f3_; have f4_ := f1_.symm; have f5_ := f3_.symm; clear f1_ f2_ f3_; subst f4_; subst f5_))
   refine hK.out _ _ ⟨(blk_cell BK297.out 0).trans rfl, (blk_cell BK297.out 1).trans rfl, (blk_cell BK282.out 0).trans rfl, (blk_cell BK282.out 1).trans rfl⟩ (fun hHeld => ?_)
   clear hK K
   refine norm_ (a' := ?_) ?_ ?_
   rotate_left
   ·show Act.put _ (some 24) _ = _
    simp only [Act.put, List.setIfInBounds_toArray, List.set_cons_zero, List.set_cons_succ, i64_w, i32_w]
    rfl
   refine one_ (i := 3) (N := some 25) #[true, true, true, true, false] rfl rfl (by kernel_rfl) (by decide) (fun K hK => ?_)
   refine goes_ Try.func9 (by kernel_rfl) rfl #[.agg #[.slice Ao19 t291.length co19, .slice Ao22 t294.length co22], .agg #[.slice Ao29 t299.length co29, .slice Ao30 t302.length co30]] (by rfl) rfl rfl (by (try simp only [List.map_toArray, List.map_cons, List.map_nil]); first | done | rfl | (simp only [List.length_drop, List.length_take]; rfl)) ?_
   with_reducible refine (laws_eqLocal.calls k _ _ t291 _ _ t294 _ _ t299 _ _ t302 t305 _ ?side1 ?side2 ?side3 ?side4 ?side5 ?side6 ?side7 ?side8 A26.out).mono ?_
   (case side1 => repeat (first | exact (Kd.R_reads' HO293.out).2.2 | (with_reducible refine Kd.C_alloc ?_ _) | (with_reducible refine Kd.C_drewN ?_ _) | (with_reducible refine Kd.C_drew ?_)))
   (case side2 => exact (Kd.R_reads' HO293.out).2.1)
   (case side3 => repeat (first | exact (Kd.R_reads' HO296.out).2.2 | (with_reducible refine Kd.C_alloc ?_ _) | (with_reducible refine Kd.C_drewN ?_ _) | (with_reducible refine Kd.C_drew ?_)))
   (case side4 => exact (Kd.R_reads' HO296.out).2.1)
   (case side5 => repeat (first | exact (Kd.R_reads' HO301.out).2.2 | (with_reducible refine Kd.C_alloc ?_ _) | (with_reducible refine Kd.C_drewN ?_ _) | (with_reducible refine Kd.C_drew ?_)))
   (case side6 => exact (Kd.R_reads' HO301.out).2.1)
   (case side7 => repeat (first | exact (Kd.R_reads' HO304.out).2.2 | (with_reducible refine Kd.C_alloc ?_ _) | (with_reducible refine Kd.C_drewN ?_ _) | (with_reducible refine Kd.C_drew ?_)))
   (case side8 => exact (Kd.R_reads' HO304.out).2.1)
   rintro e w31 ⟨rfl, hb⟩
   refine ⟨_, rfl, ?_⟩
   have n_ := an (Kd.R_below (by exact Kd.R_nw HO286.out) hb) (an (Kd.R_below (by exact Kd.R_nw HO289.out) hb) (an (Kd.R_below (by exact Kd.R_nw HO293.out) hb) (an (Kd.R_below (by exact Kd.R_nw HO296.out) hb) (an (Kd.R_below (by exact Kd.R_nw HO301.out) hb) (an (Kd.R_below (by exact Kd.R_nw HO304.out) hb) (an (blk_below (blk_nw BK282.out) hb) (an (blk_below (blk_nw BK297.out) hb) (an (below_step (by exact bel0) hb) (trivial)))))))))
   clear HO286 HO289 HO293 HO296 HO301 HO304 BK282 BK297 HB
   obtain ⟨HO286, HO289, HO293, HO296, HO301, HO304, BK282, BK297, HB, -⟩ := n_
   (try clear hb); (try clear hb2); (try clear hk); (try clear hi)
   refine hK.out _ _ ⟨(blk_cell BK297.out 0).trans rfl, (blk_cell BK297.out 1).trans rfl, (blk_cell BK282.out 0).trans rfl, (blk_cell BK282.out 1).trans rfl⟩ (fun hHeld => ?_)
   clear hK K
   refine norm_ (a' := ?_) ?_ ?_
   rotate_left
   ·show Act.put _ (some 25) _ = _
    simp only [Act.put, List.setIfInBounds_toArray, List.set_cons_zero, List.set_cons_succ, i64_w, i32_w]
    rfl
   refine pure_ (i := 4) (N := some 26) (v := ?_) (a' := ?_) #[true, true, true, true, true] rfl rfl (by kernel_rfl) (fun _ _ _ h => h) (Or.inl ⟨by rfl, ?_⟩) ?_ ?_
   rotate_left
   ·intro w'
    go_simp
    with_reducible rfl
   rotate_left
   ·simp only [Act.put, List.setIfInBounds_toArray, List.set_cons_zero, List.set_cons_succ, i64_w, i32_w]
    rfl
   refine done_ (by kernel_rfl) ?_
   replace H := H.out
   by_cases c32 : t305 = true
   ·subst c32; rw [if_pos rfl] at H
    obtain rfl := Option.some.inj H
    go_wp2
    go_ret
    exact ⟨by first | rfl | (simp [errW_none, errW_some] <;> rfl) | (simp [*, errW_none, errW_some] <;> rfl), by exact bel0⟩
   ·replace c32 := Bool.eq_false_iff.mpr c32
    subst c32
    rw [if_neg (show ¬ (false = true) by decide)] at H
    obtain rfl := Option.some.inj H
    go_wp2
    go_ret
    exact ⟨by first | rfl | (simp [errW_none, errW_some] <;> rfl) | (simp [*, errW_none, errW_some] <;> rfl), by exact bel0⟩

end Go.Proofs.Ytkeplodbjldaiaa.XFnExactLocalOk
