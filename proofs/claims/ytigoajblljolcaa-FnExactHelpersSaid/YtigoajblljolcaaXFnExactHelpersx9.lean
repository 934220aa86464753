-- Written by this session's own program (xprint.py) over the kit's print.
import Derived.Test.YtigoajblljolcaaXFnExactHelpersx0
import Derived.Test.YtigoajblljolcaaXFnExactHelpersx8
namespace Go.Proofs.Ytigoajblljolcaa.XFnExactHelpers
open Go.RowKit Go.Proofs.YtigoajblljolcaaW.PrintWords Go.Proofs.YtigoajblljolcaaW.PrintLast Go.Proofs.YtigoajblljolcaaW.PrintMore
attribute [local go_sem] max2_int min2_int max_two min_two max_three min_three max_four min_four   -- for this text's walks alone
set_option linter.unusedVariables false
set_option linter.unusedSimpArgs false

/-! ### impl_Shuffle: function 160 -/
mutual
def impl_Shuffle.j0 : Nat → List Int → Int → Bool → Option (List Int × Int)
  | 0, _, _, _ => none
  | k + 1, x0, x1, x16 => if x16 = true then (some (([] : List Int), 0)) else ((slices_Clone_int_int.f x0).bind fun t284 => (impl_Shuffle.l0 k x1 t284 (wrap64 ((t284.length : Int) - 1))))
def impl_Shuffle.l0 : Nat → Int → List Int → Int → Option (List Int × Int)
  | 0, _, _, _ => none
  | k + 1, x1, x6, x7 => if x7 > 0 then ((impl_Mix.f x1).bind fun t287 => (if (wrap64 (x7 + 1)) = 0 then (none) else (if 0 ≤ (Int.tmod t287 (wrap64 (x7 + 1))) then (if (Int.tmod t287 (wrap64 (x7 + 1))) < (x6.length : Int) then (if 0 ≤ x7 then (if x7 < (x6.length : Int) then (impl_Shuffle.l0 k t287 ((x6.set (x7 : Int).toNat (rd x6 (Int.tmod t287 (wrap64 (x7 + 1))))).set ((Int.tmod t287 (wrap64 (x7 + 1))) : Int).toNat (rd x6 x7)) (wrap64 (x7 - 1))) else (none)) else (none)) else (none)) else (none)))) else (some (x6, x1))
end
def impl_Shuffle.f (k : Nat) (l0 : List Int) (a1 : Int) : Option (List Int × Int) := if (l0.length : Int) > 12 then (impl_Shuffle.j0 k l0 a1 true) else ((impl_isSeed.f a1).bind fun t283 => (impl_Shuffle.j0 k l0 a1 (!t283)))
theorem impl_Shuffle.mono_l : ∀ k, (∀ y0 y1 y2, LeO (impl_Shuffle.j0 k y0 y1 y2) (impl_Shuffle.j0 (k + 1) y0 y1 y2)) ∧ (∀ y0 y1 y2, LeO (impl_Shuffle.l0 k y0 y1 y2) (impl_Shuffle.l0 (k + 1) y0 y1 y2))
 | 0 => ⟨fun _ _ _ r h => by simp [impl_Shuffle.j0] at h, fun _ _ _ r h => by simp [impl_Shuffle.l0] at h⟩
 | k + 1 => by
  obtain ⟨ih0, ih1⟩ := impl_Shuffle.mono_l k
  refine ⟨?_, ?_⟩
  ·intro y0 y1 y2
   unfold impl_Shuffle.j0
   repeat' first
   | (with_reducible exact ih0 _ _ _)
   | (with_reducible exact ih1 _ _ _)
   | (with_reducible exact LeO.refl _)
   | (with_reducible exact LeO.none _)
   | (with_reducible refine LeO.ite ?_ ?_)
   | (with_reducible refine LeO.bind ?_ (fun _ => ?_))
   | exact ih0 _ _ _
   | exact ih1 _ _ _
   | exact LeO.none _
   | refine LeO.ite ?_ ?_
   | refine LeO.bind ?_ (fun _ => ?_)
  ·intro y0 y1 y2
   unfold impl_Shuffle.l0
   repeat' first
   | (with_reducible exact ih0 _ _ _)
   | (with_reducible exact ih1 _ _ _)
   | (with_reducible exact LeO.refl _)
   | (with_reducible exact LeO.none _)
   | (with_reducible refine LeO.ite ?_ ?_)
   | (with_reducible refine LeO.bind ?_ (fun _ => ?_))
   | exact ih0 _ _ _
   | exact ih1 _ _ _
   | exact LeO.none _
   | refine LeO.ite ?_ ?_
   | refine LeO.bind ?_ (fun _ => ?_)
theorem impl_Shuffle.mono : ∀ a0 a1 k, LeO (impl_Shuffle.f k a0 a1) (impl_Shuffle.f (k + 1) a0 a1) := by
 intro a0 a1 k
 obtain ⟨ih0, ih1⟩ := impl_Shuffle.mono_l k
 unfold impl_Shuffle.f
 repeat' first
   | (with_reducible exact ih0 _ _ _)
   | (with_reducible exact ih1 _ _ _)
   | (with_reducible exact LeO.refl _)
   | (with_reducible exact LeO.none _)
   | (with_reducible refine LeO.ite ?_ ?_)
   | (with_reducible refine LeO.bind ?_ (fun _ => ?_))
   | exact ih0 _ _ _
   | exact ih1 _ _ _
   | exact LeO.none _
   | refine LeO.ite ?_ ?_
   | refine LeO.bind ?_ (fun _ => ?_)
def impl_Shuffle.T9 : Bool × List (List Nat × List Nat) := (true, [([], []), ([], []), ([], []), ([], []), ([], []), ([], []), ([4, 5], [4, 5]), ([6], [6]), ([], []), ([], []), ([8, 9], [8, 9]), ([10], [10]), ([0, 1, 0, 1, 4, 5, 6, 7, 11], [0, 1]), ([12, 7, 0, 1, 4, 5, 6, 7, 11], [7, 12]), ([2, 3, 0, 1, 2, 3, 4, 5, 6, 7, 8, 9, 10, 11, 12, 13], [2, 3]), ([14, 11, 13, 0, 1, 2, 3, 4, 5, 6, 7, 8, 9, 10, 11, 12, 13], [11, 14])])
def impl_Shuffle.B9 : List Nat := [0, 0, 0, 0, 0, 0, 48, 112, 0, 0, 768, 1792, 4083, 8179, 16383, 32767]
theorem impl_Shuffle.tab9 : rtab .any (opsOf Try.f160 9) = impl_Shuffle.T9 := by kernel_rfl
theorem impl_Shuffle.bits9 : waitsOk impl_Shuffle.T9.2 impl_Shuffle.B9 = true := by kernel_rfl
set_option maxHeartbeats 8000000 in
set_option maxRecDepth 100000 in
theorem impl_Shuffle.calls (k : Nat) (A0 : Option Addr) (c0 : Nat) (l0 : List Int) (a1 : Int) (r1 : List Int) (r2 : Int) (w : World) (hr0 : Kd.C (Kd.int .i64) w A0 l0.length l0) (hc0 : l0.length ≤ c0) (h : impl_Shuffle.f k l0 a1 = some (r1, r2)) :
  Calls Try.prog 160 #[.slice A0 l0.length c0, .int .i64 a1] w fun e w' => ∃ v0_ : Value, e = .returned (.tuple #[v0_, .int .i64 r2]) ∧ Kd.R (Kd.int .i64) 3 w' w.heap.size (fun _ => True) v0_ r1 ∧ Below w.heap.size w w' := by
 have HR0 := Aside0.mk hr0; have HC0 := Aside0.mk hc0; clear hr0 hc0
 have HB := Aside0.mk (Below.refl w.heap.size w)
 have H : (if (l0.length : Int) > 12 then (impl_Shuffle.j0 k l0 a1 true) else ((impl_isSeed.f a1).bind fun t283 => (impl_Shuffle.j0 k l0 a1 (!t283)))) = some (r1, r2) := h
 clear h; have HC3 := Aside0.mk H; clear H; go_enter Try.func160, Try.ntmps160
 go_upto_region 1 with (fail)
 go_cut [16] (fun v16 wc => ∃ (kq : Nat) (x16_2 : Bool), v16 = .bool x16_2 ∧ Aside0 (impl_Shuffle.j0 kq l0 a1 x16_2 = some (r1, r2)) ∧ Aside0 (kq ≤ k) ∧ Aside0 (Below w.heap.size w wc))
 case first =>
  have H := HC3.out; clear HC3
  by_cases c4 : (l0.length : Int) > 12
  ·rw [if_pos c4] at H
   have c4b0 : decide (12 < (l0.length : Int)) = true := decide_eq_true c4
   have c4b1 : decide (12 < l0.length) = true := decide_eq_true (by omega)
   clear c4; (try simp only [c4b0])
   (first | rw [c4b0] | (simp only [i64_w, i32_w]; rw [c4b0]) | skip)
   have H' := Aside0.mk H
   clear H
   go_wp2
   go_meet
   case rel => exact ⟨_, (true), (by first | rfl | (simp; done) | (simp [*]; done)), H', ⟨by first | omega | exact Nat.le_refl _⟩, ⟨by exact bel0⟩⟩
  ·rw [if_neg c4] at H
   have c4b0 : decide (12 < (l0.length : Int)) = false := decide_eq_false c4
   have c4b1 : decide (12 < l0.length) = false := decide_eq_false (by omega)
   clear c4; (try simp only [c4b0])
   (first | rw [c4b0] | (simp only [i64_w, i32_w]; rw [c4b0]) | skip)
   replace H := Option.bind_eq_some_iff.mp H; obtain ⟨t283, A50, H⟩ := H; have A5 := Aside0.mk A50; clear A50
   have H' := Aside0.mk H
   clear H
   go_wp2_with (first | (go_at_call 158; (with_reducible refine (impl_isSeed.calls a1 t283 _ A5.out).mono ?_); rintro e w' ⟨rfl, ⟨nd, rfl⟩⟩))
   go_meet
   case rel => exact ⟨_, (!t283), (by first | rfl | (simp; done) | (simp [*]; done)), H', ⟨by first | omega | exact Nat.le_refl _⟩, ⟨by exact bel0⟩⟩
 case rest =>
  clear HC3; try clear c1; try clear p2; try clear c4; try clear c4b0; try clear c4b1
  obtain ⟨kq, x16_2, rfl, HA, HJ2, HB⟩ := hcut
  cases kq with
  | zero => exact absurd HA.out (by simp [impl_Shuffle.j0])
  | succ kj2 =>
   have H := HA.out; clear HA
   simp only [impl_Shuffle.j0] at H
   by_cases c6 : x16_2 = true
   ·subst c6; rw [if_pos rfl] at H; simp only [Option.some.injEq, Prod.mk.injEq] at H; obtain ⟨rfl, rfl⟩ := H
    go_wp2
    go_ret2
    exact ⟨_, by first | rfl | (simp [errW_none, errW_some] <;> rfl) | (simp [*, errW_none, errW_some] <;> rfl), by first | exact Kd.R_nil _ _ _ _ _ | exact Kd.N_nil _ _ _ _ _ | exact Kd.V_nil _ _ _ _ _ | exact Kd.Q_nil _ _ _ _ _ | exact Kd.S_nil _ _ _ _ _, by exact bel0⟩
   ·replace c6 := Bool.eq_false_iff.mpr c6
    subst c6
    rw [if_neg (show ¬ (false = true) by decide)] at H
    replace H := Option.bind_eq_some_iff.mp H; obtain ⟨t284, A70, H⟩ := H; have A7 := Aside0.mk A70; clear A70
    have H' := Aside0.mk H
    clear H
    go_wp2_with (first | ((with_reducible refine gate_callee (f := 159) rfl ?_); refine goesL_ (some 18) rfl rfl Try.func159 (by kernel_rfl) rfl #[.slice A0 l0.length c0] rfl (by (try simp only [List.map_toArray, List.map_cons, List.map_nil]); first | done | rfl | (simp only [List.length_drop, List.length_take]; rfl)) ?_; (with_reducible refine (slices_Clone_int_int.calls _ _ l0 t284 _ ?side1 ?side2 A7.out).mono ?_); (case side1 => repeat (first | exact (Kd.C_below HR0.out HB.out) | (with_reducible refine Kd.C_alloc ?_ _) | (with_reducible refine Kd.C_drewN ?_ _) | (with_reducible refine Kd.C_drew ?_))); (case side2 => exact HC0.out); rintro e w8 ⟨v285, rfl, ho0, hb⟩; refine ⟨_, rfl, ?_⟩; have n_ := an (Kd.R_lower ho0 (below_size (by exact bel0))) (an (below_step (by exact bel0) hb) (trivial)); clear HB; obtain ⟨HO286, HB, -⟩ := n_; (try clear hb); (try clear hb2); (try clear hk); (try clear hi); (try clear ho0); obtain ⟨Ao9, co9, eo9⟩ := Kd.R_slice HO286.out; subst eo9))
    go_loopg [1, 7] kj2 (fun kq v1 v7 w' => ∃ (x1_2 : Int) (x6_2 : List Int) (x7_2 : Int), v1 = .int .i64 x1_2 ∧ v7 = .int .i64 x7_2 ∧ Aside0 (impl_Shuffle.l0 kq x1_2 x6_2 x7_2 = some (r1, r2)) ∧ Aside0 (kq ≤ kj2) ∧ Aside0 (Kd.R (Kd.int .i64) 3 w' w.heap.size (fun _ => True) (.slice Ao9 t284.length co9) x6_2) ∧ Aside0 (Below w.heap.size w w'))
    case atStart => exact ⟨(a1), (t284), (wrap64 ((t284.length : Int) - 1)), (by first | rfl | (simp; done) | (simp [*]; done)), (by first | rfl | (simp; done) | (simp [*]; done)), H', ⟨Nat.le_refl _⟩, ⟨by exact Kd.R_nw HO286.out⟩, ⟨by exact bel0⟩⟩
    case round =>
     clear H'
     try clear c1; try clear p2; try clear c4; try clear c4b0; try clear c4b1; try clear c6; try clear p6; try clear p2
     obtain ⟨x1_2, x6_2, x7_2, rfl, rfl, HA, HK2, HO_6, HB⟩ := hrel
     have hl6_2 := (Kd.R_reads' HO_6.out).1
     rw [hl6_2] at HO_6
     (try simp only [hl6_2])
     cases gk with
     | zero => exact absurd HA.out (by simp [impl_Shuffle.l0])
     | succ k2 =>
      have H := HA.out; clear HA
      simp only [impl_Shuffle.l0] at H
      by_cases c10 : x7_2 > 0
      ·rw [if_pos c10] at H; have c10b0 : decide (0 < x7_2) = true := decide_eq_true c10; clear c10; (try simp only [c10b0]); replace H := Option.bind_eq_some_iff.mp H; obtain ⟨t287, A110, H⟩ := H; have A11 := Aside0.mk A110; clear A110
       replace H := Aside0.mk H
       go_wp2_with (first | ((with_reducible refine gate_callee (f := 186) rfl ?_); refine goesL_ (some 27) rfl rfl Try.func186 (by kernel_rfl) rfl #[.int .i64 x1_2] rfl (by (try simp only [List.map_toArray, List.map_cons, List.map_nil]); first | done | rfl | (simp only [List.length_drop, List.length_take]; rfl)) ?_; (with_reducible refine (impl_Mix.calls x1_2 t287 _ A11.out).mono ?_); rintro e w' ⟨rfl, ⟨nd, rfl⟩⟩; refine ⟨_, rfl, ?_⟩; (try (rw [drewN_self wr]; generalize hq_ : World.drewN wr _ = wr; have n0_ : Aside0 (Kd.R (Kd.int .i64) 3 wr w.heap.size (fun _ => True) (.slice Ao9 x6_2.length co9) x6_2) := ⟨by rw [← hq_]; exact (by exact Kd.R_nw HO_6.out)⟩; have n1_ : Aside0 (Below w.heap.size w wr) := ⟨by rw [← hq_]; exact (by exact bel0)⟩; clear HO_6 HB hq_; have HO_6 := n0_; have HB := n1_; clear n0_ n1_)); refine Stop.out ?_))
       refine Stop.mk ?_
       replace H := H.out
       by_cases c12 : (wrap64 (x7_2 + 1)) = 0
       ·rw [if_pos c12] at H
        exact absurd H (by simp)
       ·rw [if_neg c12] at H; have c12b0 : ((wrap64 (x7_2 + 1)) == 0) = false := beq_eq_false_iff_ne.mpr c12; have c12b1 : ((wrap64 (x7_2 + 1)) != 0) = true := bne_iff_ne.mpr c12
        obtain ⟨ji13, hji13⟩ : ∃ j_ : Int, (Int.tmod t287 (wrap64 (x7_2 + 1))) = j_ := ⟨_, rfl⟩
        replace H : (if 0 ≤ (ji13) then (if (ji13) < (x6_2.length : Int) then (if 0 ≤ x7_2 then (if x7_2 < (x6_2.length : Int) then (impl_Shuffle.l0 k2 t287 ((x6_2.set (x7_2 : Int).toNat (rd x6_2 (ji13))).set ((ji13) : Int).toNat (rd x6_2 x7_2)) (wrap64 (x7_2 - 1))) else (none)) else (none)) else (none)) else (none)) = some (r1, r2) := by first | (rw [hji13] at H; exact H) | (simp only [hji13] at H ⊢; exact H)
        by_cases c14 : 0 ≤ (ji13)
        ·rw [if_pos c14] at H; have c14b0 : decide (0 ≤ (ji13)) = true := decide_eq_true c14; clear c14; (try simp only [c14b0])
         by_cases c15 : (ji13) < (x6_2.length : Int)
         ·rw [if_pos c15] at H
          have c15b0 : decide ((ji13) < (x6_2.length : Int)) = true := decide_eq_true c15
          clear c15; (try simp only [c15b0])
          by_cases c16 : 0 ≤ x7_2
          ·rw [if_pos c16] at H; have c16b0 : decide (0 ≤ x7_2) = true := decide_eq_true c16; clear c16; (try simp only [c16b0])
           by_cases c17 : x7_2 < (x6_2.length : Int)
           ·rw [if_pos c17] at H
            have c17b0 : decide (x7_2 < (x6_2.length : Int)) = true := decide_eq_true c17
            clear c17; (try simp only [c17b0])
            obtain ⟨y290, hy290⟩ : ∃ y_ : List Int, y_ = (x6_2.set (x7_2 : Int).toNat (rd x6_2 (ji13))) := ⟨_, rfl⟩
            replace H : (impl_Shuffle.l0 k2 t287 (y290.set ((ji13) : Int).toNat (rd x6_2 x7_2)) (wrap64 (x7_2 - 1))) = some (r1, r2) := by first | (rw [hy290]; with_reducible exact H) | (have H2_ := (Option.bind_some _ _).symm.trans H; rw [hy290]; with_reducible exact H2_) | (have H2_ := (Option.bind_some _ _).symm.trans H; with_reducible exact H2_) | with_reducible exact H | (rw [hy290]; exact H) | exact H
            have Ny290 := Aside0.mk hy290; clear hy290
            obtain ⟨y291, hy291⟩ : ∃ y_ : List Int, y_ = (y290.set ((ji13) : Int).toNat (rd x6_2 x7_2)) := ⟨_, rfl⟩
            replace H : (impl_Shuffle.l0 k2 t287 y291 (wrap64 (x7_2 - 1))) = some (r1, r2) := by first | (rw [hy291]; with_reducible exact H) | (have H2_ := (Option.bind_some _ _).symm.trans H; rw [hy291]; with_reducible exact H2_) | (have H2_ := (Option.bind_some _ _).symm.trans H; with_reducible exact H2_) | with_reducible exact H | (rw [hy291]; exact H) | exact H
            have Ny291 := Aside0.mk hy291; clear hy291
            have H' := Aside0.mk H
            clear H
            try go_wp2
            have n_ := an (Kd.R_drew HO_6.out) (an (below_drew1 HB.out) (trivial))
            clear HO_6 HB
            obtain ⟨HO_6, HB, -⟩ := n_
            have p288 : 0 ≤ ((ji13) : Int) := of_decide_eq_true (by first | (with_reducible assumption) | assumption)
            have q288 : (ji13) < (x6_2.length : Int) := of_decide_eq_true (by first | (with_reducible assumption) | assumption)
            obtain ⟨ad288, e288, hx288_0⟩ := Kd.at_int (Kd.R_reads' HO_6.out).2.2 (ji13) p288 q288
            cases e288
            replace p288 := eq_true p288
            replace q288 := eq_true q288
            have p289 : 0 ≤ (x7_2 : Int) := of_decide_eq_true (by first | (with_reducible assumption) | assumption)
            have q289 : x7_2 < (x6_2.length : Int) := of_decide_eq_true (by first | (with_reducible assumption) | assumption)
            obtain ⟨ad289, e289, hx289_0⟩ := Kd.at_int (Kd.R_reads' HO_6.out).2.2 x7_2 p289 q289
            obtain rfl : ad288 = ad289 := (by injection e289)
            replace p289 := eq_true p289
            replace q289 := eq_true q289
            have p18 : 0 ≤ (x7_2 : Int) := of_decide_eq_true (by first | (with_reducible assumption) | assumption)
            have q18 : (x7_2 : Int) < ((x6_2.length : Int) : Int) := of_decide_eq_true (by first | (with_reducible assumption) | assumption)
            obtain ⟨go18, co18, eo18, gb18, gl18, cl18, HG18⟩ := Kd.R_form HO_6.out (by omega)
            (first | cases eo18 | (injection eo18 with ea_ en_ ec_; (first | subst ea_ | (injection ea_ with ea_; subst ea_)); subst ec_; clear en_))
            have GB18 := Aside0.mk gb18; have GG18 := Aside0.mk HG18; clear gb18 gl18 HG18
            (first | simp only [add_plain] at hx288_0 | skip)
            (first | simp only [add_plain] at hx289_0 | skip)
            obtain ⟨hx18_0, hf18_0⟩ := Kd.R_celln 0 HO_6.out (x7_2 : Int) p18 q18
            replace p18 := eq_true p18
            replace q18 := eq_true q18
            have HP21 := Kd.R_putn HO_6.out (x7_2 : Int) (rd x6_2 (ji13))
            rw [← Ny290.out] at HP21
            have HQ21 := Aside0.mk HP21; clear HP21
            have p19 : 0 ≤ ((ji13) : Int) := of_decide_eq_true (by first | (with_reducible assumption) | assumption)
            have q19 : ((ji13) : Int) < ((x6_2.length : Int) : Int) := of_decide_eq_true (by first | (with_reducible assumption) | assumption)
            obtain ⟨hx19_0, hf19_0⟩ := Kd.R_celln 0 HQ21.out ((ji13) : Int) p19 q19
            replace p19 := eq_true p19
            replace q19 := eq_true q19
            have HP22 := Kd.R_putn HQ21.out ((ji13) : Int) (rd x6_2 x7_2)
            rw [← Ny291.out] at HP22
            have HQ22 := Aside0.mk HP22; clear HP22
            refine start_ (n := 16) (S := fun w' => w'.cell? ⟨go18, ((ji13)).toNat, none⟩ = some (.int .i64 (rd x6_2 (ji13))) ∧ w'.cell? ⟨go18, (x7_2).toNat, none⟩ = some (.int .i64 (rd x6_2 x7_2))) (ds := [13, 15]) #[false, false, false, false, false, false, false, false, false, false, false, false, false, false, false, false] (by kernel_rfl) rfl rfl ⟨hx288_0, hx289_0⟩ (fun hHeld => ?_); refine with_tabW impl_Shuffle.tab9 impl_Shuffle.bits9 (fun HT_ HW_ => ?_)
            generalize wr.drew = w20 at HO_6 HB GG18 HQ21 HQ22 hf18_0 hf19_0 hx18_0 hx19_0 hx288_0 hx289_0 hHeld ⊢
            refine pure_ (i := 0) (N := some 32) (v := ?_) (a' := ?_) #[true, false, false, false, false, false, false, false, false, false, false, false, false, false, false, false] rfl rfl (any_of HT_.out (by kernel_rfl)) (fun _ _ _ h => h) (Or.inl ⟨by rfl, ?_⟩) ?_ ?_
            rotate_left
            ·intro w'
             go_simp
             with_reducible rfl
            rotate_left
            ·simp only [Act.put, List.setIfInBounds_toArray, List.set_cons_zero, List.set_cons_succ, i64_w, i32_w]
             rfl
            refine pure_ (i := 1) (N := some 33) (v := ?_) (a' := ?_) #[true, true, false, false, false, false, false, false, false, false, false, false, false, false, false, false] rfl rfl (any_of HT_.out (by kernel_rfl)) (fun _ _ _ h => h) (Or.inl ⟨by rfl, ?_⟩) ?_ ?_
            rotate_left
            ·intro w'
             go_simp
             with_reducible rfl
            rotate_left
            ·simp only [Act.put, List.setIfInBounds_toArray, List.set_cons_zero, List.set_cons_succ, i64_w, i32_w]
             rfl
            refine pure_ (i := 2) (N := some 34) (v := ?_) (a' := ?_) #[true, true, true, false, false, false, false, false, false, false, false, false, false, false, false, false] rfl rfl (any_of HT_.out (by kernel_rfl)) (fun _ _ _ h => h) (Or.inl ⟨by rfl, ?_⟩) ?_ ?_
            rotate_left
            ·intro w'
             go_simp
             with_reducible rfl
            rotate_left
            ·simp only [Act.put, List.setIfInBounds_toArray, List.set_cons_zero, List.set_cons_succ, i64_w, i32_w]
             rfl
            refine pure_ (i := 3) (N := some 35) (v := ?_) (a' := ?_) #[true, true, true, true, false, false, false, false, false, false, false, false, false, false, false, false] rfl rfl (any_of HT_.out (by kernel_rfl)) (fun _ _ _ h => h) (Or.inl ⟨by rfl, ?_⟩) ?_ ?_
            rotate_left
            ·intro w'
             go_simp
             with_reducible rfl
            rotate_left
            ·simp only [Act.put, List.setIfInBounds_toArray, List.set_cons_zero, List.set_cons_succ, i64_w, i32_w]
             rfl
            refine pure_ (i := 4) (N := some 36) (v := ?_) (a' := ?_) #[true, true, true, true, true, false, false, false, false, false, false, false, false, false, false, false] rfl rfl (any_of HT_.out (by kernel_rfl)) (fun _ _ _ h => h) (Or.inl ⟨by rfl, ?_⟩) ?_ ?_
            rotate_left
            ·intro w'
             go_simp
             with_reducible rfl
            rotate_left
            ·simp only [Act.put, List.setIfInBounds_toArray, List.set_cons_zero, List.set_cons_succ, i64_w, i32_w]
             rfl
            refine pure_ (i := 5) (N := some 37) (v := ?_) (a' := ?_) #[true, true, true, true, true, true, false, false, false, false, false, false, false, false, false, false] rfl rfl (any_of HT_.out (by kernel_rfl)) (fun _ _ _ h => h) (Or.inl ⟨by rfl, ?_⟩) ?_ ?_
            rotate_left
            ·intro w'
             go_simp
             with_reducible rfl
            rotate_left
            ·simp only [Act.put, List.setIfInBounds_toArray, List.set_cons_zero, List.set_cons_succ, i64_w, i32_w]
             rfl
            refine pure_ (i := 6) (N := some 38) (v := ?_) (a' := ?_) #[true, true, true, true, true, true, true, false, false, false, false, false, false, false, false, false] rfl rfl (any_of HT_.out (by kernel_rfl)) (fun _ _ _ h => h) (Or.inl ⟨by rfl, ?_⟩) ?_ ?_
            rotate_left
            ·intro w'
             go_simp
             with_reducible rfl
            rotate_left
            ·simp only [Act.put, List.setIfInBounds_toArray, List.set_cons_zero, List.set_cons_succ, i64_w, i32_w]
             rfl
            refine pure_ (i := 8) (N := some 40) (v := ?_) (a' := ?_) #[true, true, true, true, true, true, true, false, true, false, false, false, false, false, false, false] rfl rfl (any_of HT_.out (by kernel_rfl)) (fun _ _ _ h => h) (Or.inl ⟨by rfl, ?_⟩) ?_ ?_
            rotate_left
            ·intro w'
             go_simp
             with_reducible rfl
            rotate_left
            ·simp only [Act.put, List.setIfInBounds_toArray, List.set_cons_zero, List.set_cons_succ, i64_w, i32_w]
             rfl
            refine pure_ (i := 9) (N := some 41) (v := ?_) (a' := ?_) #[true, true, true, true, true, true, true, false, true, true, false, false, false, false, false, false] rfl rfl (any_of HT_.out (by kernel_rfl)) (fun _ _ _ h => h) (Or.inl ⟨by rfl, ?_⟩) ?_ ?_
            rotate_left
            ·intro w'
             go_simp
             with_reducible rfl
            rotate_left
            ·simp only [Act.put, List.setIfInBounds_toArray, List.set_cons_zero, List.set_cons_succ, i64_w, i32_w]
             rfl
            refine pure_ (i := 10) (N := some 42) (v := ?_) (a' := ?_) #[true, true, true, true, true, true, true, false, true, true, true, false, false, false, false, false] rfl rfl (any_of HT_.out (by kernel_rfl)) (fun _ _ _ h => h) (Or.inl ⟨by rfl, ?_⟩) ?_ ?_
            rotate_left
            ·intro w'
             go_simp
             with_reducible rfl
            rotate_left
            ·simp only [Act.put, List.setIfInBounds_toArray, List.set_cons_zero, List.set_cons_succ, i64_w, i32_w]
             rfl
            refine take_ (i := 7) (N := some 39) (v := ?_) (a' := ?_) #[true, true, true, true, true, true, true, true, true, true, true, false, false, false, false, false] rfl rfl (take_ofW HT_.out HW_.out (by kernel_rfl)) (fun _ _ _ h => h) (Or.inl ⟨by rfl, ?_⟩) hHeld ?_ ?_
            rotate_left
            ·rintro w' ⟨s0, s1⟩
             go_simp
             with_reducible rfl
            rotate_left
            ·simp only [Act.put, List.setIfInBounds_toArray, List.set_cons_zero, List.set_cons_succ, i64_w, i32_w]
             rfl
            refine take_ (i := 11) (N := some 43) (v := ?_) (a' := ?_) #[true, true, true, true, true, true, true, true, true, true, true, true, false, false, false, false] rfl rfl (take_ofW HT_.out HW_.out (by kernel_rfl)) (fun _ _ _ h => h) (Or.inl ⟨by rfl, ?_⟩) hHeld ?_ ?_
            rotate_left
            ·rintro w' ⟨s0, s1⟩
             go_simp
             with_reducible rfl
            rotate_left
            ·simp only [Act.put, List.setIfInBounds_toArray, List.set_cons_zero, List.set_cons_succ, i64_w, i32_w]
             rfl
            refine pure_ (i := 12) (N := some 44) (v := ?_) (a' := ?_) #[true, true, true, true, true, true, true, true, true, true, true, true, true, false, false, false] rfl rfl (any_of HT_.out (by kernel_rfl)) (fun _ _ _ h => h) (Or.inl ⟨by rfl, ?_⟩) ?_ ?_
            rotate_left
            ·intro w'
             go_simp
             with_reducible rfl
            rotate_left
            ·simp only [Act.put, List.setIfInBounds_toArray, List.set_cons_zero, List.set_cons_succ, i64_w, i32_w]
             rfl
            refine last_ (i := 13) (N := none) #[true, true, true, true, true, true, true, true, true, true, true, true, true, true, false, false] rfl rfl (one_of HT_.out (by kernel_rfl)) (by decide) (fun K hK => ?_)
            refine skip_ (w1 := ?_) (by rfl) rfl ?_ ?_
            rotate_left
            ·go_simp
             rfl
            refine hK.out _ _ ?_
            clear hK K
            refine pure_ (i := 14) (N := some 45) (v := ?_) (a' := ?_) #[true, true, true, true, true, true, true, true, true, true, true, true, true, true, true, false] rfl rfl (any_of HT_.out (by kernel_rfl)) (fun _ _ _ h => h) (Or.inl ⟨by rfl, ?_⟩) ?_ ?_
            rotate_left
            ·intro w'
             go_simp
             with_reducible rfl
            rotate_left
            ·simp only [Act.put, List.setIfInBounds_toArray, List.set_cons_zero, List.set_cons_succ, i64_w, i32_w]
             rfl
            refine last_ (i := 15) (N := none) #[true, true, true, true, true, true, true, true, true, true, true, true, true, true, true, true] rfl rfl (one_of HT_.out (by kernel_rfl)) (by decide) (fun K hK => ?_)
            refine skip_ (w1 := ?_) (by rfl) rfl ?_ ?_
            rotate_left
            ·go_simp
             rfl
            refine hK.out _ _ ?_
            clear hK K
            refine done_ (done_of HT_.out (by kernel_rfl)) ?_
            try go_wp2
            (try simp only [← hl6_2])
            go_roundg k2
            case measure => have := HJ2.out; have := HK2.out; omega
            case rel => exact ⟨(t287), (y291), (wrap64 (x7_2 - 1)), (by first | rfl | (simp; done) | (simp [*]; done)), (by first | rfl | (simp; done) | (simp [*]; done)), H', ⟨by have := HJ2.out; have := HK2.out; omega⟩, ⟨by (try simp only [hl6_2]); (with_reducible repeat (first | apply Kd.R_alloc | apply Kd.R_drewN | apply Kd.R_drew)); exact HQ22.out⟩, ⟨by repeat (first | (with_reducible first | exact HB.out | apply below_alloc | apply pw_below_drewN | apply below_drew1 | refine below_set ?_ GB18.out | refine below_set ?_ GB18.out) | exact HB.out)⟩⟩
           ·rw [if_neg c17] at H
            exact absurd H (by simp)
          ·rw [if_neg c16] at H
           exact absurd H (by simp)
         ·rw [if_neg c15] at H
          exact absurd H (by simp)
        ·rw [if_neg c14] at H
         exact absurd H (by simp)
      ·rw [if_neg c10] at H; have c10b0 : decide (0 < x7_2) = false := decide_eq_false c10; clear c10; (try simp only [c10b0]); simp only [Option.some.injEq, Prod.mk.injEq] at H; obtain ⟨rfl, rfl⟩ := H
       go_wp2
       go_ret2
       exact ⟨_, by first | rfl | (simp [errW_none, errW_some] <;> rfl) | (simp [*, errW_none, errW_some] <;> rfl), by exact Kd.R_nw HO_6.out, by exact bel0⟩

-- NOT PRINTED: function 196 (slices_IndexFunc_int_int)

-- NOT PRINTED: function 187 (slices_DeleteFunc_int_int)

/-! ### impl_Table_live: function 188 -/
def impl_Table_live.l0 : Nat → List Int → List (S82) → Int → Int → Option (List Int)
  | 0, _, _, _, _ => none
  | k + 1, x3, x7, x8, x9 => if x9 < x8 then (if 0 ≤ x9 then (if x9 < (x7.length : Int) then (if ((rd_T82 x7 x9).f1) = 0 then (if x3.length < 17592186044416 then (impl_Table_live.l0 k (x3 ++ [(rd_T82 x7 x9).f0]) x7 x8 (wrap64 (x9 + 1))) else (none)) else (if ((rd_T82 x7 x9).f1) = 1 then (if x3.length < 17592186044416 then (impl_Table_live.l0 k (x3 ++ [(rd_T82 x7 x9).f0]) x7 x8 (wrap64 (x9 + 1))) else (none)) else (impl_Table_live.l0 k x3 x7 x8 (wrap64 (x9 + 1))))) else (none)) else (none)) else (some x3)
def impl_Table_live.f (k : Nat) (a0_0 : Int) (l0_1 : List (S82)) : Option (List Int) := impl_Table_live.l0 k ([] : List Int) l0_1 (l0_1.length : Int) 0
theorem impl_Table_live.mono_l : ∀ k, (∀ y0 y1 y2 y3, LeO (impl_Table_live.l0 k y0 y1 y2 y3) (impl_Table_live.l0 (k + 1) y0 y1 y2 y3))
 | 0 => fun _ _ _ _ r h => by simp [impl_Table_live.l0] at h
 | k + 1 => by
  have ih0 := impl_Table_live.mono_l k
  ·intro y0 y1 y2 y3
   unfold impl_Table_live.l0
   repeat' first
   | (with_reducible exact ih0 _ _ _ _)
   | (with_reducible exact LeO.refl _)
   | (with_reducible exact LeO.none _)
   | (with_reducible refine LeO.ite ?_ ?_)
   | (with_reducible refine LeO.bind ?_ (fun _ => ?_))
   | exact ih0 _ _ _ _
   | exact LeO.none _
   | refine LeO.ite ?_ ?_
   | refine LeO.bind ?_ (fun _ => ?_)
theorem impl_Table_live.mono : ∀ a0 a1 k, LeO (impl_Table_live.f k a0 a1) (impl_Table_live.f (k + 1) a0 a1) := by
 intro a0 a1 k
 have ih0 := impl_Table_live.mono_l k
 unfold impl_Table_live.f
 repeat' first
   | (with_reducible exact ih0 _ _ _ _)
   | (with_reducible exact LeO.refl _)
   | (with_reducible exact LeO.none _)
   | (with_reducible refine LeO.ite ?_ ?_)
   | (with_reducible refine LeO.bind ?_ (fun _ => ?_))
   | exact ih0 _ _ _ _
   | exact LeO.none _
   | refine LeO.ite ?_ ?_
   | refine LeO.bind ?_ (fun _ => ?_)
set_option maxHeartbeats 8000000 in
set_option maxRecDepth 100000 in
theorem impl_Table_live.calls (k : Nat) (a0_0 : Int) (A0_1 : Option Addr) (c0_1 : Nat) (l0_1 : List (S82)) (r : List Int) (w : World) (hr0_1 : Kd.C k82 w A0_1 l0_1.length l0_1) (hc0_1 : l0_1.length ≤ c0_1) (h : impl_Table_live.f k a0_0 l0_1 = some r) :
  Calls Try.prog 188 #[.agg #[.int .i64 a0_0, .slice A0_1 l0_1.length c0_1]] w fun e w' => ∃ v0_ : Value, e = .returned (v0_) ∧ Kd.R (Kd.int .i64) 3 w' w.heap.size (fun _ => True) v0_ r ∧ Below w.heap.size w w' := by
 have hu41 := Try.underlying41
 have hu82 := Try.underlying82
 have HR0_1 := Aside0.mk hr0_1; have HC0_1 := Aside0.mk hc0_1; clear hr0_1 hc0_1
 have HB := Aside0.mk (Below.refl w.heap.size w)
 have H : (impl_Table_live.l0 k ([] : List Int) l0_1 (l0_1.length : Int) 0) = some r := h
 clear h
 have H' := Aside0.mk H
 clear H; go_enter Try.func188, Try.ntmps188
 go_wp2_with (first | ((with_reducible refine gate_dst (N := 1) rfl ?_); refine box_event ?hg (N := 1) ?hd (cs := #[.int .i64 a0_0, .slice A0_1 l0_1.length c0_1]) (t := 41) ?hr ?_; (case hd => rfl); (case hg => rfl); (case hr => first | (go_simp; done) | (go_simp; rfl)); intro gb292 hg w2 hbox hb; have n_ := an (below_step (by exact bel0) hb) (an (hbox) (an ((by rw [hg]; exact (below_size (by exact bel0)) : w.heap.size ≤ gb292)) (an ((by rw [hg]; exact (below_size (by exact bel0)) : w.heap.size ≤ gb292)) (trivial)))); clear HB; obtain ⟨HB, BK292, GW292, GE292, -⟩ := n_; clear hb hbox hg; obtain ⟨hcz3_0, hcz3_1⟩ := blkz2 BK292.out; have hfz3_0 := blkf BK292.out))
 go_loopg [3, 9] k (fun kq v3 v9 w' => ∃ (x3_1 : List Int) (x9_1 : Int), v9 = .int .i64 x9_1 ∧ Aside0 (impl_Table_live.l0 kq x3_1 l0_1 (l0_1.length : Int) x9_1 = some r) ∧ Aside0 (kq ≤ k) ∧ Aside0 (Kd.R (Kd.int .i64) 3 w' w.heap.size (fun _ => True) v3 x3_1) ∧ Aside0 (w'.heap[gb292]? = some (.cells #[.int .i64 a0_0, (.slice A0_1 l0_1.length c0_1)] 41 (0, 0))) ∧ Aside0 (Below w.heap.size w w'))
 case atStart => exact ⟨(([] : List Int)), (0), (by first | rfl | (simp; done) | (simp [*]; done)), H', ⟨Nat.le_refl _⟩, ⟨by first | exact Kd.R_nil _ _ _ _ _ | exact Kd.N_nil _ _ _ _ _ | exact Kd.V_nil _ _ _ _ _ | exact Kd.Q_nil _ _ _ _ _ | exact Kd.S_nil _ _ _ _ _⟩, ⟨by exact blk_nw BK292.out⟩, ⟨by exact bel0⟩⟩
 case round =>
  clear H'
  try clear c1; try clear p2; try clear hcz3_0; try clear hcz3_1; try clear hfz3_0; try clear hfz3_1
  obtain ⟨x3_1, x9_1, rfl, HA, HK1, HO_3, BK292, HB⟩ := hrel
  cases gk with
  | zero => exact absurd HA.out (by simp [impl_Table_live.l0])
  | succ k1 =>
   have H := HA.out; clear HA
   simp only [impl_Table_live.l0] at H
   by_cases c4 : x9_1 < (l0_1.length : Int)
   ·rw [if_pos c4] at H
    have c4b0 : decide (x9_1 < (l0_1.length : Int)) = true := decide_eq_true c4
    clear c4; (try simp only [c4b0])
    by_cases c5 : 0 ≤ x9_1
    ·rw [if_pos c5] at H; have c5b0 : decide (0 ≤ x9_1) = true := decide_eq_true c5; clear c5; (try simp only [c5b0])
     by_cases c6 : x9_1 < (l0_1.length : Int)
     ·rw [if_pos c6] at H
      have c6b0 : decide (x9_1 < (l0_1.length : Int)) = true := decide_eq_true c6
      clear c6; (try simp only [c6b0])
      have p293 : 0 ≤ (x9_1 : Int) := of_decide_eq_true (by first | (with_reducible assumption) | assumption)
      have q293 : x9_1 < (l0_1.length : Int) := of_decide_eq_true (by first | (with_reducible assumption) | assumption)
      obtain ⟨ad293, e293, hx293_0, hx293_1, hx293_2⟩ := at_T82 HR0_1.out x9_1 p293 q293
      cases e293
      replace hx293_0 := (HB.out.cell (World.block_lt_of_cell? w _ hx293_0)).trans hx293_0
      replace hx293_1 := (HB.out.cell (World.block_lt_of_cell? w _ hx293_1)).trans hx293_1
      replace hx293_2 := (HB.out.cell (World.block_lt_of_cell? w _ hx293_2)).trans hx293_2
      replace p293 := eq_true p293
      replace q293 := eq_true q293
      replace H := Aside0.mk H
      go_wp2_with (first | ((with_reducible refine gate_dst (N := 5) rfl ?_); refine box_event ?hg (N := 5) ?hd (cs := #[.int .i64 0, .int .i64 0, .int .i64 0]) (t := 82) ?hr ?_; (case hd => rfl); (case hg => rfl); (case hr => first | (go_simp; done) | (go_simp; rfl)); intro gb294 hg w7 hbox hb; have n_ := an (Kd.R_below (by exact Kd.R_nw HO_3.out) hb) (an (blk_below (blk_nw BK292.out) hb) (an (below_step (by exact bel0) hb) (an (hbox) (an ((by rw [hg]; exact (below_size (by exact bel0)) : w.heap.size ≤ gb294)) (an ((by rw [hg]; exact (below_size (by exact bel0)) : w.heap.size ≤ gb294)) (an ((by rw [hg]; exact Nat.ne_of_lt (blk_lt (blk_nw BK292.out)) : gb292 ≠ gb294)) (an ((by rw [hg]; exact Nat.ne_of_gt (blk_lt (blk_nw BK292.out)) : gb294 ≠ gb292)) (trivial)))))))); clear HO_3 BK292 HB; obtain ⟨HO_3, BK292, HB, BK294, GW294, GE294, NB292_294, NB294_292, -⟩ := n_; clear hb hbox hg; have hnb8 := NB294_292.out; have hnc8 := NB292_294.out; obtain ⟨hcz9_0, hcz9_1, hcz9_2⟩ := blkz3 BK294.out; have hfz9_0 := blkf BK294.out; refine Stop.out ?_))
      refine Stop.mk ?_
      replace H := H.out
      by_cases c10 : ((rd_T82 l0_1 x9_1).f1) = 0
      ·rw [if_pos c10] at H; have c10b0 : (((rd_T82 l0_1 x9_1).f1) == 0) = true := beq_iff_eq.mpr c10; have c10b1 : (((rd_T82 l0_1 x9_1).f1) != 0) = false := bne_eq_false_iff_eq.mpr c10; clear c10
       by_cases c11 : x3_1.length < 17592186044416
       ·rw [if_pos c11] at H; have LMc11 := Aside0.mk c11; clear c11
        obtain ⟨y295, hy295⟩ : ∃ y_ : List Int, y_ = (x3_1 ++ [(rd_T82 l0_1 x9_1).f0]) := ⟨_, rfl⟩
        replace H : (impl_Table_live.l0 k1 y295 l0_1 (l0_1.length : Int) (wrap64 (x9_1 + 1))) = some r := by first | (rw [hy295]; with_reducible exact H) | (have H2_ := (Option.bind_some _ _).symm.trans H; rw [hy295]; with_reducible exact H2_) | (have H2_ := (Option.bind_some _ _).symm.trans H; with_reducible exact H2_) | with_reducible exact H | (rw [hy295]; exact H) | exact H
        have Ny295 := Aside0.mk hy295; clear hy295
        have H' := Aside0.mk H
        clear H; have hnb12 := NB294_292.out; have hnc12 := NB292_294.out; obtain ⟨hcz13_0, hcz13_1, hcz13_2⟩ := blkz3 BK294.out; have hfz13_0 := blkf BK294.out
        go_wp2_with (first | ((with_reducible refine gate_builtin (b := .append) (xs := #[.tmp 21, .tmp 24]) rfl ?_); at_builtin; refine Kd.R_append (Kd.int .i64) (w0 := w) w.heap.size rfl (.tmp 21) (.tmp 24) 63 3 (.int .i64 0) 8 rfl Try.underlying63 info3 rfl (by decide) (by omega) u3 x3_1 ((rd_T82 l0_1 x9_1).f0) [.int .i64 ((rd_T82 l0_1 x9_1).f0)] (fun _ => True) (fun _ => False) rfl (by first | (go_simp; done) | (go_simp; rfl)) ?aP (fun _ hk => hk.elim) ?aF ?aO ?aB ?aS ?aL ?_; (case aP => exact rfl); (case aB => exact (by exact bel0)); (case aF => exact (fun _ _ => trivial)); (case aO => exact (by exact (Kd.R_farN HO_3.out BK294.out))); (case aS => exact (below_size (by exact bel0))); (case aL => have := LMc11.out; omega); intro v296 w14 ho hb hg hat; rw [← Ny295.out] at ho; have n_ := an (blk_grown (blk_kb BK292.out NB292_294.out) hg (Kd.R_ne HO_3.out BK292.out (by decide))) (an (blk_grown (g := gb294) (o := .cells #[.int .i64 ((rd_T82 l0_1 x9_1).f0), .int .i64 ((rd_T82 l0_1 x9_1).f1), .int .i64 ((rd_T82 l0_1 x9_1).f2)] 82 (0, 0)) (by (with_reducible repeat (first | refine blk_drewN ?_ _ | refine blk_drew ?_ | refine blk_alloc ?_ _)); exact blk_fill3 BK294.out) hg (Kd.R_ne HO_3.out BK294.out (by decide))) (an (hb) (an (ho) (trivial)))); clear BK292 BK294 HB HO_3; obtain ⟨BK292, BK294, HB, HO297, -⟩ := n_; clear ho hb hg hat))
        go_roundg k1
        case measure => have := HK1.out; omega
        case rel => exact ⟨(y295), (wrap64 (x9_1 + 1)), (by first | rfl | (simp; done) | (simp [*]; done)), H', ⟨by have := HK1.out; omega⟩, ⟨by exact Kd.R_nw HO297.out⟩, ⟨by exact blk_nw BK292.out⟩, ⟨by exact bel0⟩⟩
       ·rw [if_neg c11] at H
        exact absurd H (by simp)
      ·rw [if_neg c10] at H; have c10b0 : (((rd_T82 l0_1 x9_1).f1) == 0) = false := beq_eq_false_iff_ne.mpr c10; have c10b1 : (((rd_T82 l0_1 x9_1).f1) != 0) = true := bne_iff_ne.mpr c10
       by_cases c15 : ((rd_T82 l0_1 x9_1).f1) = 1
       ·rw [if_pos c15] at H; have c15b0 : (((rd_T82 l0_1 x9_1).f1) == 1) = true := beq_iff_eq.mpr c15; have c15b1 : (((rd_T82 l0_1 x9_1).f1) != 1) = false := bne_eq_false_iff_eq.mpr c15; clear c15
        by_cases c16 : x3_1.length < 17592186044416
        ·rw [if_pos c16] at H; have LMc16 := Aside0.mk c16; clear c16
         obtain ⟨y298, hy298⟩ : ∃ y_ : List Int, y_ = (x3_1 ++ [(rd_T82 l0_1 x9_1).f0]) := ⟨_, rfl⟩
         replace H : (impl_Table_live.l0 k1 y298 l0_1 (l0_1.length : Int) (wrap64 (x9_1 + 1))) = some r := by first | (rw [hy298]; with_reducible exact H) | (have H2_ := (Option.bind_some _ _).symm.trans H; rw [hy298]; with_reducible exact H2_) | (have H2_ := (Option.bind_some _ _).symm.trans H; with_reducible exact H2_) | with_reducible exact H | (rw [hy298]; exact H) | exact H
         have Ny298 := Aside0.mk hy298; clear hy298
         have H' := Aside0.mk H
         clear H; have hnb17 := NB294_292.out; have hnc17 := NB292_294.out; obtain ⟨hcz18_0, hcz18_1, hcz18_2⟩ := blkz3 BK294.out; have hfz18_0 := blkf BK294.out
         go_wp2_with (first | ((with_reducible refine gate_builtin (b := .append) (xs := #[.tmp 21, .tmp 24]) rfl ?_); at_builtin; refine Kd.R_append (Kd.int .i64) (w0 := w) w.heap.size rfl (.tmp 21) (.tmp 24) 63 3 (.int .i64 0) 8 rfl Try.underlying63 info3 rfl (by decide) (by omega) u3 x3_1 ((rd_T82 l0_1 x9_1).f0) [.int .i64 ((rd_T82 l0_1 x9_1).f0)] (fun _ => True) (fun _ => False) rfl (by first | (go_simp; done) | (go_simp; rfl)) ?aP (fun _ hk => hk.elim) ?aF ?aO ?aB ?aS ?aL ?_; (case aP => exact rfl); (case aB => exact (by exact bel0)); (case aF => exact (fun _ _ => trivial)); (case aO => exact (by exact (Kd.R_farN HO_3.out BK294.out))); (case aS => exact (below_size (by exact bel0))); (case aL => have := LMc16.out; omega); intro v299 w19 ho hb hg hat; rw [← Ny298.out] at ho; have n_ := an (blk_grown (blk_kb BK292.out NB292_294.out) hg (Kd.R_ne HO_3.out BK292.out (by decide))) (an (blk_grown (g := gb294) (o := .cells #[.int .i64 ((rd_T82 l0_1 x9_1).f0), .int .i64 ((rd_T82 l0_1 x9_1).f1), .int .i64 ((rd_T82 l0_1 x9_1).f2)] 82 (0, 0)) (by (with_reducible repeat (first | refine blk_drewN ?_ _ | refine blk_drew ?_ | refine blk_alloc ?_ _)); exact blk_fill3 BK294.out) hg (Kd.R_ne HO_3.out BK294.out (by decide))) (an (hb) (an (ho) (trivial)))); clear BK292 BK294 HB HO_3; obtain ⟨BK292, BK294, HB, HO300, -⟩ := n_; clear ho hb hg hat))
         go_roundg k1
         case measure => have := HK1.out; omega
         case rel => exact ⟨(y298), (wrap64 (x9_1 + 1)), (by first | rfl | (simp; done) | (simp [*]; done)), H', ⟨by have := HK1.out; omega⟩, ⟨by exact Kd.R_nw HO300.out⟩, ⟨by exact blk_nw BK292.out⟩, ⟨by exact bel0⟩⟩
        ·rw [if_neg c16] at H
         exact absurd H (by simp)
       ·rw [if_neg c15] at H; have c15b0 : (((rd_T82 l0_1 x9_1).f1) == 1) = false := beq_eq_false_iff_ne.mpr c15; have c15b1 : (((rd_T82 l0_1 x9_1).f1) != 1) = true := bne_iff_ne.mpr c15
        have H' := Aside0.mk H
        clear H; have hnb20 := NB294_292.out; have hnc20 := NB292_294.out; obtain ⟨hcz21_0, hcz21_1, hcz21_2⟩ := blkz3 BK294.out; have hfz21_0 := blkf BK294.out
        go_wp2
        go_roundg k1
        case measure => have := HK1.out; omega
        case rel => exact ⟨(x3_1), (wrap64 (x9_1 + 1)), (by first | rfl | (simp; done) | (simp [*]; done)), H', ⟨by have := HK1.out; omega⟩, ⟨by exact (Kd.R_farN HO_3.out BK294.out)⟩, ⟨by exact blk_kb BK292.out NB292_294.out⟩, ⟨by exact bel0⟩⟩
     ·rw [if_neg c6] at H
      exact absurd H (by simp)
    ·rw [if_neg c5] at H
     exact absurd H (by simp)
   ·rw [if_neg c4] at H
    have c4b0 : decide (x9_1 < (l0_1.length : Int)) = false := decide_eq_false c4
    clear c4; (try simp only [c4b0])
    obtain rfl := Option.some.inj H
    go_wp2
    go_ret
    exact ⟨_, by first | rfl | (simp [errW_none, errW_some] <;> rfl) | (simp [*, errW_none, errW_some] <;> rfl), by exact Kd.R_nw HO_3.out, by exact bel0⟩

/-! ### impl_Table_others: function 161 -/
def impl_Table_others_c.p (s b x : Int) : Bool := x == s || x == b
set_option maxHeartbeats 8000000 in
set_option maxRecDepth 100000 in
theorem impl_Table_others_c.clo (s b : Int) (cs : Value) (x : Int) (g0_ g1_ : Nat) (w : World) (q0_ : w.heap[g0_]? = some (.cells #[.int .i64 s, cs] 41 (0, 0))) (q1_ : w.heap[g1_]? = some (.cells #[.int .i64 b] 3 (0, 0))) :
  Calls Try.prog 189 #[.int .i64 x, .pointer (some ⟨g0_, 0, none⟩), .pointer (some ⟨g1_, 0, none⟩)] w fun e w' => e = .returned (.bool (impl_Table_others_c.p s b x)) ∧ Below w.heap.size w w' := by
 have hu41 := Try.underlying41
 have hct := (blkz2 q0_).1
 have hcb := blkz1 q1_
 cases h1 : x == s with
 | true =>
  have hd : decide (x = s) = true := by simpa using h1
  go_enter Try.func189, Try.ntmps189
  go_wp2
  go_ret
  exact ⟨by simp [impl_Table_others_c.p, h1], Below.refl _ _⟩
 | false =>
  have hd : decide (x = s) = false := by simpa using h1
  go_enter Try.func189, Try.ntmps189
  go_wp2
  go_ret
  exact ⟨by simp [impl_Table_others_c.p, h1], Below.refl _ _⟩
set_option maxHeartbeats 8000000 in
set_option maxRecDepth 100000 in
theorem impl_Table_others_c.idx (s b : Int) (cs : Value) (g0_ g1_ : Nat) (A0 : Option Addr) (c0 : Nat) (l0 : List (Int)) (w : World) (hr0 : Kd.C (Kd.int .i64) w A0 l0.length l0) (hc0 : l0.length ≤ c0) (hl : l0.length < 9223372036854775807) (q0_ : w.heap[g0_]? = some (.cells #[.int .i64 s, cs] 41 (0, 0))) (q1_ : w.heap[g1_]? = some (.cells #[.int .i64 b] 3 (0, 0))) :
  Calls Try.prog 196 #[.slice A0 l0.length c0, .func (.func 189) #[] #[.pointer (some ⟨g0_, 0, none⟩), .pointer (some ⟨g1_, 0, none⟩)]] w fun e w' => e = .returned (.int .i64 (ixOf (impl_Table_others_c.p s b) l0 0)) ∧ Below w.heap.size w w' := by
 have HR0 := Aside0.mk hr0
 have HQ0 := Aside0.mk (fun (W : World) (h : Below w.heap.size w W) => (h.block g0_ (blk_lt q0_)).trans q0_)
 have HQ1 := Aside0.mk (fun (W : World) (h : Below w.heap.size w W) => (h.block g1_ (blk_lt q1_)).trans q1_)
 have HB0 := Aside0.mk (Below.refl w.heap.size w)
 have HH := Aside0.mk (show ixOf (impl_Table_others_c.p s b) l0 0 = ixOf (impl_Table_others_c.p s b) (l0.drop 0) 0 by rw [List.drop_zero])
 clear hr0 hc0 q0_ q1_; go_enter Try.func196, Try.ntmps196
 go_wp2
 go_loopg [8] (l0.length + 1) (fun kx s8 wr => ∃ i : Nat, s8 = .int .i64 i ∧ i ≤ l0.length ∧ Aside0 (l0.length < kx + i) ∧ Aside0 (ixOf (impl_Table_others_c.p s b) l0 0 = ixOf (impl_Table_others_c.p s b) (l0.drop i) i) ∧ Aside0 (Below w.heap.size w wr))
 case atStart => exact ⟨0, rfl, Nat.zero_le _, ⟨by omega⟩, HH, HB0⟩
 case round =>
  clear HH HB0
  obtain ⟨i, rfl, hi, HK, HX, HB⟩ := hrel
  cases gk with
  | zero => exact absurd HK.out (by omega)
  | succ k1 =>
   by_cases hlt : i < l0.length
   ·obtain ⟨ad, ead, hx0⟩ := Kd.at_int HR0.out (i : Int) (by omega) (by omega)
    cases ead
    replace hx0 := pw_cell_below HB.out hx0
    rw [Int.toNat_natCast] at hx0
    cases he : impl_Table_others_c.p s b (rd l0 (i : Int)) with
    | true =>
     have HE := Aside0.mk (HX.out.trans (ixOf_at (impl_Table_others_c.p s b) l0 i i hlt (by rw [← rd_get hlt]; exact he)))
     go_wp2_with (go_at_call 189; refine (impl_Table_others_c.clo s b cs _ g0_ g1_ _ ?sd0 ?sd1).mono ?_; (case sd0 => exact HQ0.out _ HB.out); (case sd1 => exact HQ1.out _ HB.out); rintro e w2 ⟨rfl, hb2⟩)
     go_ret
     exact ⟨by rw [HE.out]; rfl, below_step HB.out hb2⟩
    | false =>
     have HE := Aside0.mk (HX.out.trans (ixOf_next (impl_Table_others_c.p s b) l0 i i hlt (by rw [← rd_get hlt]; exact he)))
     go_wp2_with (go_at_call 189; refine (impl_Table_others_c.clo s b cs _ g0_ g1_ _ ?sd0 ?sd1).mono ?_; (case sd0 => exact HQ0.out _ HB.out); (case sd1 => exact HQ1.out _ HB.out); rintro e w2 ⟨rfl, hb2⟩)
     go_roundg k1
     case measure => omega
     case rel => exact ⟨i + 1, by go_num, by omega, ⟨by have := HK.out; omega⟩, HE, ⟨below_step HB.out hb2⟩⟩
   ·have HE := Aside0.mk (HX.out.trans (by rw [List.drop_eq_nil_of_le (by omega)]; rfl : ixOf (impl_Table_others_c.p s b) (l0.drop i) i = -1))
    go_wp2
    go_ret
    exact ⟨by rw [HE.out]; rfl, HB.out⟩
theorem impl_Table_others_c.zero : ∀ w, (zeroValue 3).run Try.prog w = .ok (.int .i64 0) w := by intro w; kernel_rfl
set_option maxHeartbeats 8000000 in
set_option maxRecDepth 100000 in
theorem impl_Table_others_c.del (s b : Int) (cs : Value) (g0_ g1_ : Nat) (ok : Nat → Prop) (u : Value) (l0 : List Int) (w0 w : World) (hB : Below w0.heap.size w0 w) (ho : Kd.R (Kd.int .i64) 3 w w0.heap.size ok u l0) (hl : l0.length < 4611686018427387904) (q0_ : w0.heap[g0_]? = some (.cells #[.int .i64 s, cs] 41 (0, 0))) (q1_ : w0.heap[g1_]? = some (.cells #[.int .i64 b] 3 (0, 0))) :
  Calls Try.prog 187 #[u, .func (.func 189) #[] #[.pointer (some ⟨g0_, 0, none⟩), .pointer (some ⟨g1_, 0, none⟩)]] w fun e w' => ∃ v : Value, e = .returned v ∧ Kd.R (Kd.int .i64) 3 w' w0.heap.size ok v (l0.filter fun x => !impl_Table_others_c.p s b x) ∧ Below w0.heap.size w0 w' := by
 have HB := Aside0.mk hB
 have HQ0 := Aside0.mk (fun (W : World) (h : Below w0.heap.size w0 W) => (h.block g0_ (blk_lt q0_)).trans q0_)
 have HQ1 := Aside0.mk (fun (W : World) (h : Below w0.heap.size w0 W) => (h.block g1_ (blk_lt q1_)).trans q1_)
 clear hB q0_ q1_
 rcases ixOf_spec (impl_Table_others_c.p s b) l0 0 with ⟨e1, _, hall⟩ | ⟨k0, hk0, e1, hat, _, hpre⟩
 ·have HO := Aside0.mk ho
  obtain ⟨A, c, rfl⟩ := Kd.R_slice ho
  have HE := Aside0.mk e1; have HA := Aside0.mk hall; clear ho e1 hall; go_enter Try.func187, Try.ntmps187
  go_wp2_with (go_at_call 196; refine (impl_Table_others_c.idx s b cs g0_ g1_ _ _ l0 _ ?s1 ?s2 (by omega) ?sd0 ?sd1).mono ?_; (case s1 => exact (Kd.R_reads' HO.out).2.2); (case s2 => exact (Kd.R_reads' HO.out).2.1); (case sd0 => exact HQ0.out _ HB.out); (case sd1 => exact HQ1.out _ HB.out); rw [HE.out]; rintro e w2 ⟨rfl, hb2⟩)
  go_ret
  exact ⟨_, rfl, by rw [HA.out]; exact Kd.R_below HO.out hb2, below_step HB.out hb2⟩
 ·obtain ⟨g, cap, rfl, hgb, hgl, hcl⟩ := Kd.R_form ho (by omega)
  have HO := Aside0.mk ho; have HGb := Aside0.mk hgb; have HE := Aside0.mk e1; have HA := Aside0.mk hpre; have HP := Aside0.mk hat
  have hn1 : ((k0 : Int) == -1) = false := beq_eq_false_iff_ne.2 (by omega)
  have hcap := (Kd.R_reads' ho).2.1
  clear ho e1 hpre hat hgb hgl hcl; go_enter Try.func187, Try.ntmps187
  go_wp2_with (go_at_call 196; refine (impl_Table_others_c.idx s b cs g0_ g1_ _ _ l0 _ ?s1 ?s2 (by omega) ?sd0 ?sd1).mono ?_; (case s1 => exact (Kd.R_reads' HO.out).2.2); (case s2 => exact (Kd.R_reads' HO.out).2.1); (case sd0 => exact HQ0.out _ HB.out); (case sd1 => exact HQ1.out _ HB.out); rw [HE.out, Nat.zero_add]; rintro e w2 ⟨rfl, hb2⟩; have HO2 := Aside0.mk (Kd.R_below HO.out hb2); have HB2 := Aside0.mk (below_step HB.out hb2); clear HO HB hb2)
  go_loopg [5, 6] (l0.length + 1) (fun kx s5 s6 wr => ∃ (i j : Nat) (xs : List Int), s5 = .int .i64 i ∧ s6 = .int .i64 j ∧ i < j ∧ j ≤ l0.length ∧ xs.length = l0.length ∧ Aside0 (l0.length < kx + j) ∧ Aside0 (xs.take i = (l0.take j).filter (fun x => !impl_Table_others_c.p s b x)) ∧ Aside0 (xs.drop j = l0.drop j) ∧ Aside0 (Kd.R (Kd.int .i64) 3 wr w0.heap.size ok (.slice (some ⟨g, 0, none⟩) l0.length cap) xs) ∧ Aside0 (Below w0.heap.size w0 wr))
  case atStart =>
   refine ⟨k0, k0 + 1, l0, by first | rfl | go_num, by go_num, by omega, by omega, rfl, ⟨by omega⟩, ⟨?_⟩, ⟨rfl⟩, HO2, HB2⟩
   have hp := HP.out
   rw [List.take_succ_eq_append_getElem hk0, List.filter_append, HA.out]
   simp [hp]
  case round =>
   clear HO2 HB2
   obtain ⟨i, j, xs, rfl, rfl, hij, hj, hlen, HK, HI, HD, HO, HB⟩ := hrel
   cases gk with
   | zero => exact absurd HK.out (by omega)
   | succ k1 =>
    by_cases hlt : j < l0.length
    ·have hltz : (j : Int) < (l0.length : Int) := by omega
     have hxj : rd xs (j : Int) = rd l0 (j : Int) := by
      rw [rd_get (by omega), rd_get hlt]
      have h1 := HD.out
      rw [List.drop_eq_getElem_cons (by omega), List.drop_eq_getElem_cons hlt] at h1
      exact (List.cons.inj h1).1
     obtain ⟨cj, _⟩ := Kd.R_celln 0 HO.out (j : Int) (by omega) (by omega)
     obtain ⟨ci, fi⟩ := Kd.R_celln 0 HO.out (i : Int) (by omega) (by omega)
     rw [Int.toNat_natCast] at cj ci fi
     replace cj : wr.cell? ⟨g, j, none⟩ = some (.int .i64 (rd l0 (j : Int))) := by rw [← hxj]; exact cj
     have HX := Aside0.mk hxj; have HL := Aside0.mk hlen; clear hxj hlen
     generalize hold : rdOf (0 : Int) xs (i : Int) = old at ci
     clear hold
     cases he : impl_Table_others_c.p s b (rd l0 (j : Int)) with
     | true =>
      go_wp2_with (go_at_call 189; refine (impl_Table_others_c.clo s b cs _ g0_ g1_ _ ?sd0 ?sd1).mono ?_; (case sd0 => exact HQ0.out _ HB.out); (case sd1 => exact HQ1.out _ HB.out); rintro e w2 ⟨rfl, hb2⟩)
      go_roundg k1
      case measure => omega
      case rel =>
       refine ⟨i, j + 1, xs, rfl, by go_num, by omega, by omega, HL.out, ⟨by have := HK.out; omega⟩, ⟨?_⟩, ⟨?_⟩, ⟨Kd.R_below HO.out hb2⟩, ⟨below_step HB.out hb2⟩⟩
       ·rw [HI.out, List.take_succ_eq_append_getElem hlt, List.filter_append]
        rw [rd_get hlt] at he
        simp [he]
       ·have h1 := congrArg (List.drop 1) HD.out
        simpa [List.drop_drop, Nat.add_comm] using h1
     | false =>
      go_wp2_with (go_at_call 189; refine (impl_Table_others_c.clo s b cs _ g0_ g1_ _ ?sd0 ?sd1).mono ?_; (case sd0 => exact HQ0.out _ HB.out); (case sd1 => exact HQ1.out _ HB.out); rintro e w2 ⟨rfl, hb2⟩; have ci2 := pw_cell_below hb2 ci; have fi2 := (hb2.frozen (p := ⟨g, i, none⟩) (World.block_lt_of_cell? wr _ ci)).trans fi)
      go_roundg k1
      case measure => omega
      case rel =>
       have hR := Kd.R_putn (Kd.R_below HO.out hb2) (i : Int) (rd l0 (j : Int))
       rw [Int.toNat_natCast] at hR
       refine ⟨i + 1, j + 1, xs.set i (rd l0 (j : Int)), by go_num, by go_num, by omega, by omega, by rw [List.length_set]; exact HL.out, ⟨by have := HK.out; omega⟩, ⟨?_⟩, ⟨?_⟩, ⟨hR⟩, ⟨below_set (below_step HB.out hb2) HGb.out⟩⟩
       ·have hxl := HL.out
        rw [List.take_succ_eq_append_getElem (by rw [List.length_set]; omega), List.take_set_of_le (Nat.le_refl _), HI.out, List.getElem_set_self, List.take_succ_eq_append_getElem hlt, List.filter_append]
        rw [rd_get hlt] at he ⊢
        simp [he]
       ·have h1 := congrArg (List.drop 1) HD.out
        rw [List.drop_set_of_lt (by omega)]
        simpa [List.drop_drop, Nat.add_comm] using h1
    ·obtain rfl : j = l0.length := by omega
     have hltz : ¬ (l0.length : Int) < (l0.length : Int) := by omega
     have hcl : ∀ ty, (Builtin.clear_ #[63] ty #[.slice (some ⟨g, i, none⟩) (l0.length - i) (cap - i)]).run Try.prog wr = .ok (.tuple #[]) (wr.setCells g i (List.replicate (l0.length - i) (.int .i64 0))) :=
      fun ty => Lib.run_clear_slice wr _ 3 ty _ Try.underlying63 impl_Table_others_c.zero rfl rfl g i _ _ (by omega) (fun t ht => by
       have h1 := (Kd.R_celln 0 HO.out ((i + t : Nat) : Int) (by omega) (by omega)).1
       rw [Int.toNat_natCast] at h1
       rw [h1]; rfl) (fun t ht => by
       have h1 := (Kd.R_celln 0 HO.out ((i + t : Nat) : Int) (by omega) (by omega)).2
       rw [Int.toNat_natCast] at h1
       exact h1)
     have HL := Aside0.mk hlen
     obtain ⟨ys, hyl, hyt, hyr⟩ := R_clear (z := (0 : Int)) (l0.length - i) i wr xs (by omega) HO.out
     have HY := Aside0.mk hyr; have HYT := Aside0.mk hyt; have HYL := Aside0.mk hyl; clear hlen hyl hyt hyr
     go_wp2
     go_ret
     have hfin := Kd.R_take (m := i) HY.out (by rw [HYL.out, HL.out]; omega)
     rw [HYT.out, HI.out, List.take_length] at hfin
     exact ⟨_, rfl, hfin, below_setCells HGb.out _ _ _ HB.out⟩

def impl_Table_others.f (k : Nat) (a0_0 : Int) (l0_1 : List S82) (a1 : Int) : Option (List Int) := (impl_Table_live.f k a0_0 l0_1).bind fun y => (if y.length < 4611686018427387904 then (some (y.filter fun x => !impl_Table_others_c.p a0_0 a1 x)) else none)
theorem impl_Table_others.mono : ∀ a0 a1 a2 k, LeO (impl_Table_others.f k a0 a1 a2) (impl_Table_others.f (k + 1) a0 a1 a2) := by
 intro a0 a1 a2 k
 unfold impl_Table_others.f
 exact LeO.bind (impl_Table_live.mono _ _ _) (fun _ => LeO.refl _)
set_option maxHeartbeats 8000000 in
set_option maxRecDepth 100000 in
theorem impl_Table_others.calls (k : Nat) (a0_0 : Int) (A0_1 : Option Addr) (c0_1 : Nat) (l0_1 : List S82) (a1 : Int) (r : List Int) (w : World) (hr0_1 : Kd.C k82 w A0_1 l0_1.length l0_1) (hc0_1 : l0_1.length ≤ c0_1) (h : impl_Table_others.f k a0_0 l0_1 a1 = some r) :
  Calls Try.prog 161 #[.agg #[.int .i64 a0_0, .slice A0_1 l0_1.length c0_1], .int .i64 a1] w fun e w' => ∃ v0_ : Value, e = .returned (v0_) ∧ Kd.R (Kd.int .i64) 3 w' w.heap.size (fun _ => True) v0_ r ∧ Below w.heap.size w w' := by
 have hu41 := Try.underlying41
 unfold impl_Table_others.f at h
 obtain ⟨y, h1, h⟩ := Option.bind_eq_some_iff.mp h
 have HR := Aside0.mk hr0_1; have HC := Aside0.mk hc0_1; have HV := Aside0.mk h1; clear hr0_1 hc0_1 h1
 by_cases hl : y.length < 4611686018427387904
 ·rw [if_pos hl] at h
  obtain rfl := Option.some.inj h
  have HL := Aside0.mk hl; clear hl h; go_enter Try.func161, Try.ntmps161
  go_wp2_with (first | (go_at_call 188; refine (impl_Table_live.calls k a0_0 _ _ l0_1 y _ ?s1 HC.out HV.out).mono ?_; (case s1 => repeat (first | exact HR.out | (with_reducible refine Kd.C_alloc ?_ _))); rintro e w2 ⟨v1, rfl, ho, hb⟩; have HO := Aside0.mk ho; have HB := Aside0.mk hb; clear ho hb) | (go_at_call 187; refine (impl_Table_others_c.del a0_0 a1 (.slice A0_1 l0_1.length c0_1) w.heap.size (w.heap.size + 1) (fun _ => True) _ y _ _ HB.out HO.out HL.out ?t1 ?t2).mono ?_; (case t1 => refine blk_alloc ?_ _; exact heap_alloc_at _ _ _ rfl); (case t2 => exact heap_alloc_at _ _ _ (by simp)); rintro e w3 ⟨v2, rfl, ho2, hb3⟩))
  go_ret
  have hs : w.heap.size ≤ ((w.alloc (.cells #[.int .i64 a0_0, .slice A0_1 l0_1.length c0_1] 41)).alloc (.cells #[.int .i64 a1] 3)).heap.size := below_size (below_alloc (below_alloc (Below.refl _ _) _) _)
  exact ⟨_, rfl, Kd.R_lower ho2 hs, below_step (by repeat (first | (with_reducible exact Below.refl _ _) | (with_reducible apply below_alloc))) hb3⟩
 ·rw [if_neg hl] at h
  exact absurd h (by simp)

end Go.Proofs.Ytigoajblljolcaa.XFnExactHelpers
