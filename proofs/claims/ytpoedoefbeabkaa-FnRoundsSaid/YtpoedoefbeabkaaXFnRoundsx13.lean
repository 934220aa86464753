-- Written by this session's own program (xprint.py) over the kit's print.
import Derived.Test.YtpoedoefbeabkaaXFnRoundsx0
import Derived.Test.YtpoedoefbeabkaaXFnRoundsx9
import Derived.Test.YtpoedoefbeabkaaXFnRoundsx12
namespace Go.Proofs.Ytpoedoefbeabkaa.XFnRounds
open Go.RowKit Go.Proofs.YtpoedoefbeabkaaW.PrintWords Go.Proofs.YtpoedoefbeabkaaW.PrintLast Go.Proofs.YtpoedoefbeabkaaW.PrintMore
attribute [local go_sem] max2_int min2_int max_two min_two max_three min_three max_four min_four   -- for this text's walks alone
set_option linter.unusedVariables false
set_option linter.unusedSimpArgs false

/-! ### impl_Shuffle: function 43 -/
mutual
def impl_Shuffle.j0 : Nat → List Int → Int → Bool → Option (List Int × Int)
  | 0, _, _, _ => none
  | k + 1, x0, x1, x16 => if x16 = true then (some (([] : List Int), 0)) else ((slices_Clone_int_int.f x0).bind fun t488 => (impl_Shuffle.l0 k x1 t488 (wrap64 ((t488.length : Int) - 1))))
def impl_Shuffle.l0 : Nat → Int → List Int → Int → Option (List Int × Int)
  | 0, _, _, _ => none
  | k + 1, x1, x6, x7 => if x7 > 0 then ((impl_Mix.f x1).bind fun t491 => (if (wrap64 (x7 + 1)) = 0 then (none) else (if 0 ≤ (Int.tmod t491 (wrap64 (x7 + 1))) then (if (Int.tmod t491 (wrap64 (x7 + 1))) < (x6.length : Int) then (if 0 ≤ x7 then (if x7 < (x6.length : Int) then (impl_Shuffle.l0 k t491 ((x6.set (x7 : Int).toNat (rd x6 (Int.tmod t491 (wrap64 (x7 + 1))))).set ((Int.tmod t491 (wrap64 (x7 + 1))) : Int).toNat (rd x6 x7)) (wrap64 (x7 - 1))) else (none)) else (none)) else (none)) else (none)))) else (some (x6, x1))
end
def impl_Shuffle.f (k : Nat) (l0 : List Int) (a1 : Int) : Option (List Int × Int) := if (l0.length : Int) > 12 then (impl_Shuffle.j0 k l0 a1 true) else ((impl_isSeed.f a1).bind fun t487 => (impl_Shuffle.j0 k l0 a1 (!t487)))
theorem impl_Shuffle.mono_l : ∀ k, (∀ y0 y1 y2, LeO (impl_Shuffle.j0 k y0 y1 y2) (impl_Shuffle.j0 (k + 1) y0 y1 y2)) ∧ (∀ y0 y1 y2, LeO (impl_Shuffle.l0 k y0 y1 y2) (impl_Shuffle.l0 (k + 1) y0 y1 y2))
 | 0 => ⟨fun _ _ _ r h => by simp [impl_Shuffle.j0] at h, fun _ _ _ r h => by simp [impl_Shuffle.l0] at h⟩
 | k + 1 => by
  obtain ⟨ih0, ih1⟩ := impl_Shuffle.mono_l k
  refine ⟨?_, ?_⟩
  ·intro y0 y1 y2
   unfold impl_Shuffle.j0
   repeat' first
   | (with_reducible exact ih0 _ _ _)
   | (with_reducible exact ih1 _ _ _)
   | (with_reducible exact LeO.refl _)
   | (with_reducible exact LeO.none _)
   | (with_reducible refine LeO.ite ?_ ?_)
   | (with_reducible refine LeO.bind ?_ (fun _ => ?_))
   | exact ih0 _ _ _
   | exact ih1 _ _ _
   | exact LeO.none _
   | refine LeO.ite ?_ ?_
   | refine LeO.bind ?_ (fun _ => ?_)
  ·intro y0 y1 y2
   unfold impl_Shuffle.l0
   repeat' first
   | (with_reducible exact ih0 _ _ _)
   | (with_reducible exact ih1 _ _ _)
   | (with_reducible exact LeO.refl _)
   | (with_reducible exact LeO.none _)
   | (with_reducible refine LeO.ite ?_ ?_)
   | (with_reducible refine LeO.bind ?_ (fun _ => ?_))
   | exact ih0 _ _ _
   | exact ih1 _ _ _
   | exact LeO.none _
   | refine LeO.ite ?_ ?_
   | refine LeO.bind ?_ (fun _ => ?_)
theorem impl_Shuffle.mono : ∀ a0 a1 k, LeO (impl_Shuffle.f k a0 a1) (impl_Shuffle.f (k + 1) a0 a1) := by
 intro a0 a1 k
 obtain ⟨ih0, ih1⟩ := impl_Shuffle.mono_l k
 unfold impl_Shuffle.f
 repeat' first
   | (with_reducible exact ih0 _ _ _)
   | (with_reducible exact ih1 _ _ _)
   | (with_reducible exact LeO.refl _)
   | (with_reducible exact LeO.none _)
   | (with_reducible refine LeO.ite ?_ ?_)
   | (with_reducible refine LeO.bind ?_ (fun _ => ?_))
   | exact ih0 _ _ _
   | exact ih1 _ _ _
   | exact LeO.none _
   | refine LeO.ite ?_ ?_
   | refine LeO.bind ?_ (fun _ => ?_)
def impl_Shuffle.T9 : Bool × List (List Nat × List Nat) := (true, [([], []), ([], []), ([], []), ([], []), ([], []), ([], []), ([4, 5], [4, 5]), ([6], [6]), ([], []), ([], []), ([8, 9], [8, 9]), ([10], [10]), ([0, 1, 0, 1, 4, 5, 6, 7, 11], [0, 1]), ([12, 7, 0, 1, 4, 5, 6, 7, 11], [7, 12]), ([2, 3, 0, 1, 2, 3, 4, 5, 6, 7, 8, 9, 10, 11, 12, 13], [2, 3]), ([14, 11, 13, 0, 1, 2, 3, 4, 5, 6, 7, 8, 9, 10, 11, 12, 13], [11, 14])])
def impl_Shuffle.B9 : List Nat := [0, 0, 0, 0, 0, 0, 48, 112, 0, 0, 768, 1792, 4083, 8179, 16383, 32767]
theorem impl_Shuffle.tab9 : rtab .any (opsOf Try.f43 9) = impl_Shuffle.T9 := by kernel_rfl
theorem impl_Shuffle.bits9 : waitsOk impl_Shuffle.T9.2 impl_Shuffle.B9 = true := by kernel_rfl
set_option maxHeartbeats 8000000 in
set_option maxRecDepth 100000 in
theorem impl_Shuffle.calls (k : Nat) (A0 : Option Addr) (c0 : Nat) (l0 : List Int) (a1 : Int) (r1 : List Int) (r2 : Int) (w : World) (hr0 : Kd.C (Kd.int .i64) w A0 l0.length l0) (hc0 : l0.length ≤ c0) (h : impl_Shuffle.f k l0 a1 = some (r1, r2)) :
  Calls Try.prog 43 #[.slice A0 l0.length c0, .int .i64 a1] w fun e w' => ∃ v0_ : Value, e = .returned (.tuple #[v0_, .int .i64 r2]) ∧ Kd.R (Kd.int .i64) 3 w' w.heap.size (fun _ => True) v0_ r1 ∧ Below w.heap.size w w' := by
 have HR0 := Aside0.mk hr0; have HC0 := Aside0.mk hc0; clear hr0 hc0
 have HB := Aside0.mk (Below.refl w.heap.size w)
 have H : (if (l0.length : Int) > 12 then (impl_Shuffle.j0 k l0 a1 true) else ((impl_isSeed.f a1).bind fun t487 => (impl_Shuffle.j0 k l0 a1 (!t487)))) = some (r1, r2) := h
 clear h; have HC3 := Aside0.mk H; clear H; go_enter Try.func43, Try.ntmps43
 go_upto_region 1 with (fail)
 go_cut [16] (fun v16 wc => ∃ (kq : Nat) (x16_2 : Bool), v16 = .bool x16_2 ∧ Aside0 (impl_Shuffle.j0 kq l0 a1 x16_2 = some (r1, r2)) ∧ Aside0 (kq ≤ k) ∧ Aside0 (Below w.heap.size w wc))
 case first =>
  have H := HC3.out; clear HC3
  by_cases c4 : (l0.length : Int) > 12
  ·rw [if_pos c4] at H
   have c4b0 : decide (12 < (l0.length : Int)) = true := decide_eq_true c4
   have c4b1 : decide (12 < l0.length) = true := decide_eq_true (by omega)
   clear c4; (try simp only [c4b0])
   (first | rw [c4b0] | (simp only [i64_w, i32_w]; rw [c4b0]) | skip)
   have H' := Aside0.mk H
   clear H
   go_wp2
   go_meet
   case rel => exact ⟨_, (true), (by first | rfl | (simp; done) | (simp [*]; done)), H', ⟨by first | omega | exact Nat.le_refl _⟩, ⟨by exact bel0⟩⟩
  ·rw [if_neg c4] at H
   have c4b0 : decide (12 < (l0.length : Int)) = false := decide_eq_false c4
   have c4b1 : decide (12 < l0.length) = false := decide_eq_false (by omega)
   clear c4; (try simp only [c4b0])
   (first | rw [c4b0] | (simp only [i64_w, i32_w]; rw [c4b0]) | skip)
   replace H := Option.bind_eq_some_iff.mp H; obtain ⟨t487, A50, H⟩ := H; have A5 := Aside0.mk A50; clear A50
   have H' := Aside0.mk H
   clear H
   go_wp2_with (first | (go_at_call 22; (with_reducible refine (impl_isSeed.calls a1 t487 _ A5.out).mono ?_); rintro e w' ⟨rfl, ⟨nd, rfl⟩⟩))
   go_meet
   case rel => exact ⟨_, (!t487), (by first | rfl | (simp; done) | (simp [*]; done)), H', ⟨by first | omega | exact Nat.le_refl _⟩, ⟨by exact bel0⟩⟩
 case rest =>
  clear HC3; try clear p2; try clear c4; try clear c4b0; try clear c4b1
  obtain ⟨kq, x16_2, rfl, HA, HJ2, HB⟩ := hcut
  cases kq with
  | zero => exact absurd HA.out (by simp [impl_Shuffle.j0])
  | succ kj2 =>
   have H := HA.out; clear HA
   simp only [impl_Shuffle.j0] at H
   by_cases c6 : x16_2 = true
   ·subst c6; rw [if_pos rfl] at H; simp only [Option.some.injEq, Prod.mk.injEq] at H; obtain ⟨rfl, rfl⟩ := H
    go_wp2
    go_ret2
    exact ⟨_, by first | rfl | (simp [errW_none, errW_some] <;> rfl) | (simp [*, errW_none, errW_some] <;> rfl), by first | exact Kd.R_nil _ _ _ _ _ | exact Kd.N_nil _ _ _ _ _ | exact Kd.V_nil _ _ _ _ _ | exact Kd.Q_nil _ _ _ _ _ | exact Kd.S_nil _ _ _ _ _, by exact bel0⟩
   ·replace c6 := Bool.eq_false_iff.mpr c6
    subst c6
    rw [if_neg (show ¬ (false = true) by decide)] at H
    replace H := Option.bind_eq_some_iff.mp H; obtain ⟨t488, A70, H⟩ := H; have A7 := Aside0.mk A70; clear A70
    have H' := Aside0.mk H
    clear H
    go_wp2_with (first | ((with_reducible refine gate_callee (f := 41) rfl ?_); refine goesL_ (some 18) rfl rfl Try.func41 (by kernel_rfl) rfl #[.slice A0 l0.length c0] rfl (by (try simp only [List.map_toArray, List.map_cons, List.map_nil]); first | done | rfl | (simp only [List.length_drop, List.length_take]; rfl)) ?_; (with_reducible refine (slices_Clone_int_int.calls _ _ l0 t488 _ ?side1 ?side2 A7.out).mono ?_); (case side1 => repeat (first | exact (Kd.C_below HR0.out HB.out) | (with_reducible refine Kd.C_alloc ?_ _) | (with_reducible refine Kd.C_drewN ?_ _) | (with_reducible refine Kd.C_drew ?_))); (case side2 => exact HC0.out); rintro e w8 ⟨v489, rfl, ho0, hb⟩; refine ⟨_, rfl, ?_⟩; have n_ := an (Kd.R_lower ho0 (below_size (by exact bel0))) (an (below_step (by exact bel0) hb) (trivial)); clear HB; obtain ⟨HO490, HB, -⟩ := n_; (try clear hb); (try clear hb2); (try clear hk); (try clear hi); (try clear ho0); obtain ⟨Ao9, co9, eo9⟩ := Kd.R_slice HO490.out; subst eo9))
    go_loopg [1, 7] kj2 (fun kq v1 v7 w' => ∃ (x1_2 : Int) (x6_2 : List Int) (x7_2 : Int), v1 = .int .i64 x1_2 ∧ v7 = .int .i64 x7_2 ∧ Aside0 (impl_Shuffle.l0 kq x1_2 x6_2 x7_2 = some (r1, r2)) ∧ Aside0 (kq ≤ kj2) ∧ Aside0 (Kd.R (Kd.int .i64) 3 w' w.heap.size (fun _ => True) (.slice Ao9 t488.length co9) x6_2) ∧ Aside0 (Below w.heap.size w w'))
    case atStart => exact ⟨(a1), (t488), (wrap64 ((t488.length : Int) - 1)), (by first | rfl | (simp; done) | (simp [*]; done)), (by first | rfl | (simp; done) | (simp [*]; done)), H', ⟨Nat.le_refl _⟩, ⟨by exact Kd.R_nw HO490.out⟩, ⟨by exact bel0⟩⟩
    case round =>
     clear H'
     try clear p2; try clear c4; try clear c4b0; try clear c4b1; try clear c6; try clear p6; try clear p2
     obtain ⟨x1_2, x6_2, x7_2, rfl, rfl, HA, HK2, HO_6, HB⟩ := hrel
     have hl6_2 := (Kd.R_reads' HO_6.out).1
     rw [hl6_2] at HO_6
     (try simp only [hl6_2])
     cases gk with
     | zero => exact absurd HA.out (by simp [impl_Shuffle.l0])
     | succ k2 =>
      have H := HA.out; clear HA
      simp only [impl_Shuffle.l0] at H
      by_cases c10 : x7_2 > 0
      ·rw [if_pos c10] at H; have c10b0 : decide (0 < x7_2) = true := decide_eq_true c10; clear c10; (try simp only [c10b0]); replace H := Option.bind_eq_some_iff.mp H; obtain ⟨t491, A110, H⟩ := H; have A11 := Aside0.mk A110; clear A110
       replace H := Aside0.mk H
       go_wp2_with (first | ((with_reducible refine gate_callee (f := 54) rfl ?_); refine goesL_ (some 27) rfl rfl Try.func54 (by kernel_rfl) rfl #[.int .i64 x1_2] rfl (by (try simp only [List.map_toArray, List.map_cons, List.map_nil]); first | done | rfl | (simp only [List.length_drop, List.length_take]; rfl)) ?_; (with_reducible refine (impl_Mix.calls x1_2 t491 _ A11.out).mono ?_); rintro e w' ⟨rfl, ⟨nd, rfl⟩⟩; refine ⟨_, rfl, ?_⟩; (try (rw [drewN_self wr]; generalize hq_ : World.drewN wr _ = wr; have n0_ : Aside0 (Kd.R (Kd.int .i64) 3 wr w.heap.size (fun _ => True) (.slice Ao9 x6_2.length co9) x6_2) := ⟨by rw [← hq_]; exact (by exact Kd.R_nw HO_6.out)⟩; have n1_ : Aside0 (Below w.heap.size w wr) := ⟨by rw [← hq_]; exact (by exact bel0)⟩; clear HO_6 HB hq_; have HO_6 := n0_; have HB := n1_; clear n0_ n1_)); refine Stop.out ?_))
       refine Stop.mk ?_
       replace H := H.out
       by_cases c12 : (wrap64 (x7_2 + 1)) = 0
       ·rw [if_pos c12] at H
        exact absurd H (by simp)
       ·rw [if_neg c12] at H; have c12b0 : ((wrap64 (x7_2 + 1)) == 0) = false := beq_eq_false_iff_ne.mpr c12; have c12b1 : ((wrap64 (x7_2 + 1)) != 0) = true := bne_iff_ne.mpr c12
        obtain ⟨ji13, hji13⟩ : ∃ j_ : Int, (Int.tmod t491 (wrap64 (x7_2 + 1))) = j_ := ⟨_, rfl⟩
        replace H : (if 0 ≤ (ji13) then (if (ji13) < (x6_2.length : Int) then (if 0 ≤ x7_2 then (if x7_2 < (x6_2.length : Int) then (impl_Shuffle.l0 k2 t491 ((x6_2.set (x7_2 : Int).toNat (rd x6_2 (ji13))).set ((ji13) : Int).toNat (rd x6_2 x7_2)) (wrap64 (x7_2 - 1))) else (none)) else (none)) else (none)) else (none)) = some (r1, r2) := by first | (rw [hji13] at H; exact H) | (simp only [hji13] at H ⊢; exact H)
        by_cases c14 : 0 ≤ (ji13)
        ·rw [if_pos c14] at H; have c14b0 : decide (0 ≤ (ji13)) = true := decide_eq_true c14; clear c14; (try simp only [c14b0])
         by_cases c15 : (ji13) < (x6_2.length : Int)
         ·rw [if_pos c15] at H
          have c15b0 : decide ((ji13) < (x6_2.length : Int)) = true := decide_eq_true c15
          clear c15; (try simp only [c15b0])
          by_cases c16 : 0 ≤ x7_2
          ·rw [if_pos c16] at H; have c16b0 : decide (0 ≤ x7_2) = true := decide_eq_true c16; clear c16; (try simp only [c16b0])
           by_cases c17 : x7_2 < (x6_2.length : Int)
           ·rw [if_pos c17] at H
            have c17b0 : decide (x7_2 < (x6_2.length : Int)) = true := decide_eq_true c17
            clear c17; (try simp only [c17b0])
            obtain ⟨y494, hy494⟩ : ∃ y_ : List Int, y_ = (x6_2.set (x7_2 : Int).toNat (rd x6_2 (ji13))) := ⟨_, rfl⟩
            replace H : (impl_Shuffle.l0 k2 t491 (y494.set ((ji13) : Int).toNat (rd x6_2 x7_2)) (wrap64 (x7_2 - 1))) = some (r1, r2) := by first | (rw [hy494]; with_reducible exact H) | (rw [hy494]; exact H) | exact H
            have Ny494 := Aside0.mk hy494; clear hy494
            obtain ⟨y495, hy495⟩ : ∃ y_ : List Int, y_ = (y494.set ((ji13) : Int).toNat (rd x6_2 x7_2)) := ⟨_, rfl⟩
            replace H : (impl_Shuffle.l0 k2 t491 y495 (wrap64 (x7_2 - 1))) = some (r1, r2) := by first | (rw [hy495]; with_reducible exact H) | (rw [hy495]; exact H) | exact H
            have Ny495 := Aside0.mk hy495; clear hy495
            have H' := Aside0.mk H
            clear H
            try go_wp2
            have n_ := an (Kd.R_drew HO_6.out) (an (below_drew1 HB.out) (trivial))
            clear HO_6 HB
            obtain ⟨HO_6, HB, -⟩ := n_
            have p492 : 0 ≤ ((ji13) : Int) := of_decide_eq_true (by first | (with_reducible assumption) | assumption)
            have q492 : (ji13) < (x6_2.length : Int) := of_decide_eq_true (by first | (with_reducible assumption) | assumption)
            obtain ⟨ad492, e492, hx492_0⟩ := Kd.at_int (Kd.R_reads' HO_6.out).2.2 (ji13) p492 q492
            cases e492
            replace p492 := eq_true p492
            replace q492 := eq_true q492
            have p493 : 0 ≤ (x7_2 : Int) := of_decide_eq_true (by first | (with_reducible assumption) | assumption)
            have q493 : x7_2 < (x6_2.length : Int) := of_decide_eq_true (by first | (with_reducible assumption) | assumption)
            obtain ⟨ad493, e493, hx493_0⟩ := Kd.at_int (Kd.R_reads' HO_6.out).2.2 x7_2 p493 q493
            obtain rfl : ad492 = ad493 := (by injection e493)
            replace p493 := eq_true p493
            replace q493 := eq_true q493
            have p18 : 0 ≤ (x7_2 : Int) := of_decide_eq_true (by first | (with_reducible assumption) | assumption)
            have q18 : (x7_2 : Int) < ((x6_2.length : Int) : Int) := of_decide_eq_true (by first | (with_reducible assumption) | assumption)
            obtain ⟨go18, co18, eo18, gb18, gl18, cl18, HG18⟩ := Kd.R_form HO_6.out (by omega)
            (first | cases eo18 | (injection eo18 with ea_ en_ ec_; (first | subst ea_ | (injection ea_ with ea_; subst ea_)); subst ec_; clear en_))
            have GB18 := Aside0.mk gb18; have GG18 := Aside0.mk HG18; clear gb18 gl18 HG18
            (first | simp only [add_plain] at hx492_0 | skip)
            (first | simp only [add_plain] at hx493_0 | skip)
            obtain ⟨hx18_0, hf18_0⟩ := Kd.R_celln 0 HO_6.out (x7_2 : Int) p18 q18
            replace p18 := eq_true p18
            replace q18 := eq_true q18
            have HP21 := Kd.R_putn HO_6.out (x7_2 : Int) (rd x6_2 (ji13))
            rw [← Ny494.out] at HP21
            have HQ21 := Aside0.mk HP21; clear HP21
            have p19 : 0 ≤ ((ji13) : Int) := of_decide_eq_true (by first | (with_reducible assumption) | assumption)
            have q19 : ((ji13) : Int) < ((x6_2.length : Int) : Int) := of_decide_eq_true (by first | (with_reducible assumption) | assumption)
            obtain ⟨hx19_0, hf19_0⟩ := Kd.R_celln 0 HQ21.out ((ji13) : Int) p19 q19
            replace p19 := eq_true p19
            replace q19 := eq_true q19
            have HP22 := Kd.R_putn HQ21.out ((ji13) : Int) (rd x6_2 x7_2)
            rw [← Ny495.out] at HP22
            have HQ22 := Aside0.mk HP22; clear HP22
            refine start_ (n := 16) (S := fun w' => w'.cell? ⟨go18, ((ji13)).toNat, none⟩ = some (.int .i64 (rd x6_2 (ji13))) ∧ w'.cell? ⟨go18, (x7_2).toNat, none⟩ = some (.int .i64 (rd x6_2 x7_2))) (ds := [13, 15]) #[false, false, false, false, false, false, false, false, false, false, false, false, false, false, false, false] (by kernel_rfl) rfl rfl ⟨hx492_0, hx493_0⟩ (fun hHeld => ?_); refine with_tabW impl_Shuffle.tab9 impl_Shuffle.bits9 (fun HT_ HW_ => ?_)
            generalize wr.drew = w20 at HO_6 HB GG18 HQ21 HQ22 hf18_0 hf19_0 hx18_0 hx19_0 hx492_0 hx493_0 hHeld ⊢
            refine pure_ (i := 0) (N := some 32) (v := ?_) (a' := ?_) #[true, false, false, false, false, false, false, false, false, false, false, false, false, false, false, false] rfl rfl (any_of HT_.out (by kernel_rfl)) (fun _ _ _ h => h) (Or.inl ⟨by rfl, ?_⟩) ?_ ?_
            rotate_left
            ·intro w'
             go_simp
             with_reducible rfl
            rotate_left
            ·simp only [Act.put, List.setIfInBounds_toArray, List.set_cons_zero, List.set_cons_succ, i64_w, i32_w]
             rfl
            refine pure_ (i := 1) (N := some 33) (v := ?_) (a' := ?_) #[true, true, false, false, false, false, false, false, false, false, false, false, false, false, false, false] rfl rfl (any_of HT_.out (by kernel_rfl)) (fun _ _ _ h => h) (Or.inl ⟨by rfl, ?_⟩) ?_ ?_
            rotate_left
            ·intro w'
             go_simp
             with_reducible rfl
            rotate_left
            ·simp only [Act.put, List.setIfInBounds_toArray, List.set_cons_zero, List.set_cons_succ, i64_w, i32_w]
             rfl
            refine pure_ (i := 2) (N := some 34) (v := ?_) (a' := ?_) #[true, true, true, false, false, false, false, false, false, false, false, false, false, false, false, false] rfl rfl (any_of HT_.out (by kernel_rfl)) (fun _ _ _ h => h) (Or.inl ⟨by rfl, ?_⟩) ?_ ?_
            rotate_left
            ·intro w'
             go_simp
             with_reducible rfl
            rotate_left
            ·simp only [Act.put, List.setIfInBounds_toArray, List.set_cons_zero, List.set_cons_succ, i64_w, i32_w]
             rfl
            refine pure_ (i := 3) (N := some 35) (v := ?_) (a' := ?_) #[true, true, true, true, false, false, false, false, false, false, false, false, false, false, false, false] rfl rfl (any_of HT_.out (by kernel_rfl)) (fun _ _ _ h => h) (Or.inl ⟨by rfl, ?_⟩) ?_ ?_
            rotate_left
            ·intro w'
             go_simp
             with_reducible rfl
            rotate_left
            ·simp only [Act.put, List.setIfInBounds_toArray, List.set_cons_zero, List.set_cons_succ, i64_w, i32_w]
             rfl
            refine pure_ (i := 4) (N := some 36) (v := ?_) (a' := ?_) #[true, true, true, true, true, false, false, false, false, false, false, false, false, false, false, false] rfl rfl (any_of HT_.out (by kernel_rfl)) (fun _ _ _ h => h) (Or.inl ⟨by rfl, ?_⟩) ?_ ?_
            rotate_left
            ·intro w'
             go_simp
             with_reducible rfl
            rotate_left
            ·simp only [Act.put, List.setIfInBounds_toArray, List.set_cons_zero, List.set_cons_succ, i64_w, i32_w]
             rfl
            refine pure_ (i := 5) (N := some 37) (v := ?_) (a' := ?_) #[true, true, true, true, true, true, false, false, false, false, false, false, false, false, false, false] rfl rfl (any_of HT_.out (by kernel_rfl)) (fun _ _ _ h => h) (Or.inl ⟨by rfl, ?_⟩) ?_ ?_
            rotate_left
            ·intro w'
             go_simp
             with_reducible rfl
            rotate_left
            ·simp only [Act.put, List.setIfInBounds_toArray, List.set_cons_zero, List.set_cons_succ, i64_w, i32_w]
             rfl
            refine pure_ (i := 6) (N := some 38) (v := ?_) (a' := ?_) #[true, true, true, true, true, true, true, false, false, false, false, false, false, false, false, false] rfl rfl (any_of HT_.out (by kernel_rfl)) (fun _ _ _ h => h) (Or.inl ⟨by rfl, ?_⟩) ?_ ?_
            rotate_left
            ·intro w'
             go_simp
             with_reducible rfl
            rotate_left
            ·simp only [Act.put, List.setIfInBounds_toArray, List.set_cons_zero, List.set_cons_succ, i64_w, i32_w]
             rfl
            refine pure_ (i := 8) (N := some 40) (v := ?_) (a' := ?_) #[true, true, true, true, true, true, true, false, true, false, false, false, false, false, false, false] rfl rfl (any_of HT_.out (by kernel_rfl)) (fun _ _ _ h => h) (Or.inl ⟨by rfl, ?_⟩) ?_ ?_
            rotate_left
            ·intro w'
             go_simp
             with_reducible rfl
            rotate_left
            ·simp only [Act.put, List.setIfInBounds_toArray, List.set_cons_zero, List.set_cons_succ, i64_w, i32_w]
             rfl
            refine pure_ (i := 9) (N := some 41) (v := ?_) (a' := ?_) #[true, true, true, true, true, true, true, false, true, true, false, false, false, false, false, false] rfl rfl (any_of HT_.out (by kernel_rfl)) (fun _ _ _ h => h) (Or.inl ⟨by rfl, ?_⟩) ?_ ?_
            rotate_left
            ·intro w'
             go_simp
             with_reducible rfl
            rotate_left
            ·simp only [Act.put, List.setIfInBounds_toArray, List.set_cons_zero, List.set_cons_succ, i64_w, i32_w]
             rfl
            refine pure_ (i := 10) (N := some 42) (v := ?_) (a' := ?_) #[true, true, true, true, true, true, true, false, true, true, true, false, false, false, false, false] rfl rfl (any_of HT_.out (by kernel_rfl)) (fun _ _ _ h => h) (Or.inl ⟨by rfl, ?_⟩) ?_ ?_
            rotate_left
            ·intro w'
             go_simp
             with_reducible rfl
            rotate_left
            ·simp only [Act.put, List.setIfInBounds_toArray, List.set_cons_zero, List.set_cons_succ, i64_w, i32_w]
             rfl
            refine take_ (i := 7) (N := some 39) (v := ?_) (a' := ?_) #[true, true, true, true, true, true, true, true, true, true, true, false, false, false, false, false] rfl rfl (take_ofW HT_.out HW_.out (by kernel_rfl)) (fun _ _ _ h => h) (Or.inl ⟨by rfl, ?_⟩) hHeld ?_ ?_
            rotate_left
            ·rintro w' ⟨s0, s1⟩
             go_simp
             with_reducible rfl
            rotate_left
            ·simp only [Act.put, List.setIfInBounds_toArray, List.set_cons_zero, List.set_cons_succ, i64_w, i32_w]
             rfl
            refine take_ (i := 11) (N := some 43) (v := ?_) (a' := ?_) #[true, true, true, true, true, true, true, true, true, true, true, true, false, false, false, false] rfl rfl (take_ofW HT_.out HW_.out (by kernel_rfl)) (fun _ _ _ h => h) (Or.inl ⟨by rfl, ?_⟩) hHeld ?_ ?_
            rotate_left
            ·rintro w' ⟨s0, s1⟩
             go_simp
             with_reducible rfl
            rotate_left
            ·simp only [Act.put, List.setIfInBounds_toArray, List.set_cons_zero, List.set_cons_succ, i64_w, i32_w]
             rfl
            refine pure_ (i := 12) (N := some 44) (v := ?_) (a' := ?_) #[true, true, true, true, true, true, true, true, true, true, true, true, true, false, false, false] rfl rfl (any_of HT_.out (by kernel_rfl)) (fun _ _ _ h => h) (Or.inl ⟨by rfl, ?_⟩) ?_ ?_
            rotate_left
            ·intro w'
             go_simp
             with_reducible rfl
            rotate_left
            ·simp only [Act.put, List.setIfInBounds_toArray, List.set_cons_zero, List.set_cons_succ, i64_w, i32_w]
             rfl
            refine last_ (i := 13) (N := none) #[true, true, true, true, true, true, true, true, true, true, true, true, true, true, false, false] rfl rfl (one_of HT_.out (by kernel_rfl)) (by decide) (fun K hK => ?_)
            refine skip_ (w1 := ?_) (by rfl) rfl ?_ ?_
            rotate_left
            ·go_simp
             rfl
            refine hK.out _ _ ?_
            clear hK K
            refine pure_ (i := 14) (N := some 45) (v := ?_) (a' := ?_) #[true, true, true, true, true, true, true, true, true, true, true, true, true, true, true, false] rfl rfl (any_of HT_.out (by kernel_rfl)) (fun _ _ _ h => h) (Or.inl ⟨by rfl, ?_⟩) ?_ ?_
            rotate_left
            ·intro w'
             go_simp
             with_reducible rfl
            rotate_left
            ·simp only [Act.put, List.setIfInBounds_toArray, List.set_cons_zero, List.set_cons_succ, i64_w, i32_w]
             rfl
            refine last_ (i := 15) (N := none) #[true, true, true, true, true, true, true, true, true, true, true, true, true, true, true, true] rfl rfl (one_of HT_.out (by kernel_rfl)) (by decide) (fun K hK => ?_)
            refine skip_ (w1 := ?_) (by rfl) rfl ?_ ?_
            rotate_left
            ·go_simp
             rfl
            refine hK.out _ _ ?_
            clear hK K
            refine done_ (done_of HT_.out (by kernel_rfl)) ?_
            try go_wp2
            (try simp only [← hl6_2])
            go_roundg k2
            case measure => have := HJ2.out; have := HK2.out; omega
            case rel => exact ⟨(t491), (y495), (wrap64 (x7_2 - 1)), (by first | rfl | (simp; done) | (simp [*]; done)), (by first | rfl | (simp; done) | (simp [*]; done)), H', ⟨by have := HJ2.out; have := HK2.out; omega⟩, ⟨by (try simp only [hl6_2]); (with_reducible repeat (first | apply Kd.R_alloc | apply Kd.R_drewN | apply Kd.R_drew)); exact HQ22.out⟩, ⟨by repeat (first | (with_reducible first | exact HB.out | apply below_alloc | apply pw_below_drewN | apply below_drew1 | refine below_set ?_ GB18.out | refine below_set ?_ GB18.out) | exact HB.out)⟩⟩
           ·rw [if_neg c17] at H
            exact absurd H (by simp)
          ·rw [if_neg c16] at H
           exact absurd H (by simp)
         ·rw [if_neg c15] at H
          exact absurd H (by simp)
        ·rw [if_neg c14] at H
         exact absurd H (by simp)
      ·rw [if_neg c10] at H; have c10b0 : decide (0 < x7_2) = false := decide_eq_false c10; clear c10; (try simp only [c10b0]); simp only [Option.some.injEq, Prod.mk.injEq] at H; obtain ⟨rfl, rfl⟩ := H
       go_wp2
       go_ret2
       exact ⟨_, by first | rfl | (simp [errW_none, errW_some] <;> rfl) | (simp [*, errW_none, errW_some] <;> rfl), by exact Kd.R_nw HO_6.out, by exact bel0⟩

/-! ### impl_Prober_next: function 30 -/
mutual
def impl_Prober_next.l0 : Nat → List Int → Int → List Int → Int → Int → Int → Int → Int → Option (Int × List Int × Int × Int × Int × Int × Int)
  | 0, _, _, _, _, _, _, _, _ => none
  | k + 1, x5, x6, x1000, x1001, x1002, x1003, x1004, x1005 => impl_Prober_next.l1 k x5 x6 x1001 x1000 x1001 x1002 x1003 x1004 x1005
def impl_Prober_next.l1 : Nat → List Int → Int → Int → List Int → Int → Int → Int → Int → Int → Option (Int × List Int × Int × Int × Int × Int × Int)
  | 0, _, _, _, _, _, _, _, _, _ => none
  | k + 1, x5, x6, x7, x1000, x1001, x1002, x1003, x1004, x1005 => if x7 < (x1000.length : Int) then (if 0 ≤ x7 then ((slices_Contains_int_int.f k x5 (rd x1000 x7)).bind fun t501 => (if t501 = true then (some (rd x1000 x7, x1000, wrap64 (x7 + 1), x1002, x1003, x1004, x1005)) else (impl_Prober_next.l1 k x5 x6 (wrap64 (x7 + 1)) x1000 x1001 x1002 x1003 x1004 x1005))) else (none)) else ((impl_Shuffle.f k x5 x1002).bind fun bt503 => (if x6 = 1 then (some ((-1), bt503.1, 0, bt503.2, x1003, x1004, x1005)) else (impl_Prober_next.l0 k x5 (wrap64 (x6 + 1)) bt503.1 0 bt503.2 x1003 x1004 x1005)))
end
def impl_Prober_next.f (k : Nat) (l0_0 : List Int) (a0_1 : Int) (a0_2 : Int) (a0_3 : Int) (a0_4 : Int) (a0_5 : Int) (a1_0 : Int) (l1_1 : List (S40)) : Option (Int × List Int × Int × Int × Int × Int × Int) := (impl_Table_others.f k a1_0 l1_1 (-1)).bind fun t497 => (impl_Prober_next.l0 k t497 0 l0_0 a0_1 a0_2 a0_3 a0_4 a0_5)
theorem impl_Prober_next.mono_l : ∀ k, (∀ y0 y1 y2 y3 y4 y5 y6 y7, LeO (impl_Prober_next.l0 k y0 y1 y2 y3 y4 y5 y6 y7) (impl_Prober_next.l0 (k + 1) y0 y1 y2 y3 y4 y5 y6 y7)) ∧ (∀ y0 y1 y2 y3 y4 y5 y6 y7 y8, LeO (impl_Prober_next.l1 k y0 y1 y2 y3 y4 y5 y6 y7 y8) (impl_Prober_next.l1 (k + 1) y0 y1 y2 y3 y4 y5 y6 y7 y8))
 | 0 => ⟨fun _ _ _ _ _ _ _ _ r h => by simp [impl_Prober_next.l0] at h, fun _ _ _ _ _ _ _ _ _ r h => by simp [impl_Prober_next.l1] at h⟩
 | k + 1 => by
  obtain ⟨ih0, ih1⟩ := impl_Prober_next.mono_l k
  refine ⟨?_, ?_⟩
  ·intro y0 y1 y2 y3 y4 y5 y6 y7
   unfold impl_Prober_next.l0
   repeat' first
   | (with_reducible exact ih0 _ _ _ _ _ _ _ _)
   | (with_reducible exact ih1 _ _ _ _ _ _ _ _ _)
   | (with_reducible exact impl_Shuffle.mono _ _ _)
   | (with_reducible exact impl_Table_others.mono _ _ _ _)
   | (with_reducible exact slices_Contains_int_int.mono _ _ _)
   | (with_reducible exact LeO.refl _)
   | (with_reducible exact LeO.none _)
   | (with_reducible refine LeO.ite ?_ ?_)
   | (with_reducible refine LeO.bind ?_ (fun _ => ?_))
   | exact ih0 _ _ _ _ _ _ _ _
   | exact ih1 _ _ _ _ _ _ _ _ _
   | exact impl_Shuffle.mono _ _ _
   | exact impl_Table_others.mono _ _ _ _
   | exact slices_Contains_int_int.mono _ _ _
   | exact LeO.none _
   | refine LeO.ite ?_ ?_
   | refine LeO.bind ?_ (fun _ => ?_)
  ·intro y0 y1 y2 y3 y4 y5 y6 y7 y8
   unfold impl_Prober_next.l1
   repeat' first
   | (with_reducible exact ih0 _ _ _ _ _ _ _ _)
   | (with_reducible exact ih1 _ _ _ _ _ _ _ _ _)
   | (with_reducible exact impl_Shuffle.mono _ _ _)
   | (with_reducible exact impl_Table_others.mono _ _ _ _)
   | (with_reducible exact slices_Contains_int_int.mono _ _ _)
   | (with_reducible exact LeO.refl _)
   | (with_reducible exact LeO.none _)
   | (with_reducible refine LeO.ite ?_ ?_)
   | (with_reducible refine LeO.bind ?_ (fun _ => ?_))
   | exact ih0 _ _ _ _ _ _ _ _
   | exact ih1 _ _ _ _ _ _ _ _ _
   | exact impl_Shuffle.mono _ _ _
   | exact impl_Table_others.mono _ _ _ _
   | exact slices_Contains_int_int.mono _ _ _
   | exact LeO.none _
   | refine LeO.ite ?_ ?_
   | refine LeO.bind ?_ (fun _ => ?_)
theorem impl_Prober_next.mono : ∀ a0 a1 a2 a3 a4 a5 a6 a7 k, LeO (impl_Prober_next.f k a0 a1 a2 a3 a4 a5 a6 a7) (impl_Prober_next.f (k + 1) a0 a1 a2 a3 a4 a5 a6 a7) := by
 intro a0 a1 a2 a3 a4 a5 a6 a7 k
 obtain ⟨ih0, ih1⟩ := impl_Prober_next.mono_l k
 unfold impl_Prober_next.f
 repeat' first
   | (with_reducible exact ih0 _ _ _ _ _ _ _ _)
   | (with_reducible exact ih1 _ _ _ _ _ _ _ _ _)
   | (with_reducible exact impl_Shuffle.mono _ _ _)
   | (with_reducible exact impl_Table_others.mono _ _ _ _)
   | (with_reducible exact slices_Contains_int_int.mono _ _ _)
   | (with_reducible exact LeO.refl _)
   | (with_reducible exact LeO.none _)
   | (with_reducible refine LeO.ite ?_ ?_)
   | (with_reducible refine LeO.bind ?_ (fun _ => ?_))
   | exact ih0 _ _ _ _ _ _ _ _
   | exact ih1 _ _ _ _ _ _ _ _ _
   | exact impl_Shuffle.mono _ _ _
   | exact impl_Table_others.mono _ _ _ _
   | exact slices_Contains_int_int.mono _ _ _
   | exact LeO.none _
   | refine LeO.ite ?_ ?_
   | refine LeO.bind ?_ (fun _ => ?_)
set_option maxHeartbeats 8000000 in
set_option maxRecDepth 100000 in
theorem impl_Prober_next.calls (k : Nat) (g : Nat) (P0_0_ : Nat → Prop) (u9000_ : Value) (l0_0 : List Int) (a0_1 : Int) (a0_2 : Int) (a0_3 : Int) (a0_4 : Int) (a0_5 : Int) (a1_0 : Int) (A1_1 : Option Addr) (c1_1 : Nat) (l1_1 : List (S40)) (r1 : Int) (r2 : List Int) (r3 : Int) (r4 : Int) (r5 : Int) (r6 : Int) (r7 : Int) (w0 w : World) (hB : Below w0.heap.size w0 w) (hbx : w.heap[g]? = some (.cells #[u9000_, .int .i64 a0_1, .int .i64 a0_2, .int .i64 a0_3, .int .i64 a0_4, .int .i64 a0_5] 25 (0, 0))) (hgx : w0.heap.size ≤ g) (ho0_0 : Kd.R (Kd.int .i64) 3 w w0.heap.size P0_0_ u9000_ l0_0) (hr1_1 : ∀ W_, Kept w W_ (fun k_ => (P0_0_ k_) ∨ k_ = g) → Kd.C k40 W_ A1_1 l1_1.length l1_1) (hc1_1 : l1_1.length ≤ c1_1) (h : impl_Prober_next.f k l0_0 a0_1 a0_2 a0_3 a0_4 a0_5 a1_0 l1_1 = some (r1, r2, r3, r4, r5, r6, r7)) :
  Calls Try.prog 30 #[.pointer (some ⟨g, 0, none⟩), .agg #[.int .i64 a1_0, .slice A1_1 l1_1.length c1_1]] w fun e w' => e = .returned (.int .i64 r1) ∧ ∃ v1_ : Value, Kd.R (Kd.int .i64) 3 w' w0.heap.size (fun k_ => (P0_0_ k_ ∨ w.heap.size ≤ k_)) v1_ r2 ∧ w'.heap[g]? = some (.cells #[v1_, .int .i64 r3, .int .i64 r4, .int .i64 r5, .int .i64 r6, .int .i64 r7] 25 (0, 0)) ∧ Below w0.heap.size w0 w' ∧ Kept w w' (fun k_ => (P0_0_ k_) ∨ k_ = g) := by
 have hu28 := Try.underlying28
 have BK0 := Aside0.mk hbx; have GE0 := Aside0.mk hgx; clear hbx hgx
 have HO0_0 := Aside0.mk (show Kd.R (Kd.int .i64) 3 w w0.heap.size (fun k_ => (P0_0_ k_ ∨ w.heap.size ≤ k_)) u9000_ l0_0 from Kd.R_mono ho0_0 (fun k_ hk => (.inl hk)))
 have HR1_1 := Aside0.mk hr1_1; have HC1_1 := Aside0.mk hc1_1; clear hr1_1 hc1_1
 have HK := Aside0.mk (Kept.refl w (fun k_ => (P0_0_ k_) ∨ k_ = g))
 have HW0 := Aside0.mk hB.size
 have HB := Aside0.mk hB; clear hB
 have H : ((impl_Table_others.f k a1_0 l1_1 (-1)).bind fun t497 => (impl_Prober_next.l0 k t497 0 l0_0 a0_1 a0_2 a0_3 a0_4 a0_5)) = some (r1, r2, r3, r4, r5, r6, r7) := h
 clear h; replace H := Option.bind_eq_some_iff.mp H; obtain ⟨t497, A30, H⟩ := H; have A3 := Aside0.mk A30; clear A30
 have H' := Aside0.mk H
 clear H; go_enter Try.func30, Try.ntmps30
 go_wp2_with (first | ((with_reducible refine gate_dst (N := 3) rfl ?_); refine box_event ?hg (N := 3) ?hd (cs := #[.int .i64 a1_0, .slice A1_1 l1_1.length c1_1]) (t := 28) ?hr ?_; (case hd => rfl); (case hg => rfl); (case hr => first | (go_simp; done) | (go_simp; rfl)); intro gb496 hg w4 hbox hb; have n_ := an (Kd.R_below (by exact Kd.R_nw HO0_0.out) hb) (an (blk_below (blk_nw BK0.out) hb) (an (Kept.below (S := (fun k_ => (P0_0_ k_) ∨ k_ = g)) (by exact kpt) hb) (an (below_step (by exact bel0) hb) (an (hbox) (an ((by rw [hg]; exact (by first | exact HK.out.1 | exact (show Kept w _ (fun k_ => (P0_0_ k_) ∨ k_ = g) from by exact kpt).1) : w.heap.size ≤ gb496)) (an ((by rw [hg]; exact (below_size (by exact bel0)) : w0.heap.size ≤ gb496)) (an ((by rw [hg]; exact Nat.ne_of_lt (blk_lt (blk_nw BK0.out)) : g ≠ gb496)) (an ((by rw [hg]; exact Nat.ne_of_gt (blk_lt (blk_nw BK0.out)) : gb496 ≠ g)) (trivial))))))))); clear HO0_0 BK0 HK HB; obtain ⟨HO0_0, BK0, HK, HB, BK496, GW496, GE496, NB0_496, NB496_0, -⟩ := n_; clear hb hbox hg; have hnb5 := NB496_0.out; have hnc5 := NB0_496.out; obtain ⟨hcz6_0, hcz6_1⟩ := blkz2 BK496.out; have hfz6_0 := blkf BK496.out) | ((with_reducible refine gate_callee (f := 42) rfl ?_); refine goesL_ (some 9) rfl rfl Try.func42 (by kernel_rfl) rfl #[.agg #[.int .i64 a1_0, .slice A1_1 l1_1.length c1_1], .int .i64 (-1)] rfl (by (try simp only [List.map_toArray, List.map_cons, List.map_nil]); first | done | rfl | (simp only [List.length_drop, List.length_take]; rfl)) ?_; (with_reducible refine (impl_Table_others.calls k a1_0 _ _ l1_1 (-1) t497 _ ?side1 ?side2 A3.out).mono ?_); (case side1 => exact Kd.C_kept_now HR1_1.out (by exact kpt)); (case side2 => exact HC1_1.out); rintro e w7 ⟨v498, rfl, ho0, hb⟩; refine ⟨_, rfl, ?_⟩; have n_ := an (Kd.R_elder' (by exact Kd.R_nw HO0_0.out) (Kd.R_base ho0) hb) (an (Kd.R_lower (Kd.R_new' (Kd.R_newM (M := fun k_ => (P0_0_ k_ ∨ w.heap.size ≤ k_)) ho0 (by first | exact HK.out.1 | exact (show Kept w _ (fun k_ => (P0_0_ k_) ∨ k_ = g) from by exact kpt).1) (fun k_ h_ => .inr h_)) (Kd.R_lt (by exact Kd.R_nw HO0_0.out))) (below_size (by exact bel0))) (an (blk_below (blk_nw BK0.out) hb) (an (blk_below (blk_nw BK496.out) hb) (an (Kept.below (S := (fun k_ => (P0_0_ k_) ∨ k_ = g)) (by exact kpt) hb) (an (below_step (by exact bel0) hb) (trivial)))))); clear HO0_0 BK0 BK496 HK HB; obtain ⟨HO0_0, HO499, BK0, BK496, HK, HB, -⟩ := n_; (try clear hb); (try clear hb2); (try clear hk); (try clear hi); (try clear ho0)))
 go_loopg [6] k (fun kq v6 w' => ∃ (x6_1 : Int) (x1000_1 : List Int) (x1001_1 : Int) (x1002_1 : Int) (u1000 : Value), v6 = .int .i64 x6_1 ∧ Aside0 (impl_Prober_next.l0 kq t497 x6_1 x1000_1 x1001_1 x1002_1 a0_3 a0_4 a0_5 = some (r1, r2, r3, r4, r5, r6, r7)) ∧ Aside0 (kq ≤ k) ∧ Aside0 (Kd.R (Kd.int .i64) 3 w' w0.heap.size (fun k_ => (P0_0_ k_ ∨ w.heap.size ≤ k_) ∧ some k_ ≠ (u1000 : Value).ownBlock) v498 t497) ∧ Aside0 (Kd.R (Kd.int .i64) 3 w' w0.heap.size (fun k_ => (P0_0_ k_ ∨ w.heap.size ≤ k_) ∧ some k_ ≠ (v498 : Value).ownBlock) u1000 x1000_1) ∧ Aside0 (w'.heap[g]? = some (.cells #[u1000, .int .i64 x1001_1, .int .i64 x1002_1, .int .i64 a0_3, .int .i64 a0_4, .int .i64 a0_5] 25 (0, 0))) ∧ Aside0 (w'.heap[gb496]? = some (.cells #[.int .i64 a1_0, (.slice A1_1 l1_1.length c1_1)] 28 (0, 0))) ∧ Aside0 (Kept w w' (fun k_ => (P0_0_ k_) ∨ k_ = g)) ∧ Aside0 (Below w0.heap.size w0 w'))
 case atStart => exact ⟨(0), (l0_0), (a0_1), (a0_2), (u9000_), (by first | rfl | (simp; done) | (simp [*]; done)), H', ⟨Nat.le_refl _⟩, ⟨by exact Kd.R_nw (Kd.R_mono HO499.out (fun _ hk => ⟨hk.1.1, hk.2⟩))⟩, ⟨by exact Kd.R_nw HO0_0.out⟩, ⟨by exact blk_nw BK0.out⟩, ⟨by exact blk_nw BK496.out⟩, ⟨by exact kpt⟩, ⟨by exact bel0⟩⟩
 case round =>
  clear H'
  try clear c1; try clear p2; try clear c3; try clear c4; try clear c5; try clear hcz6_0; try clear hcz6_1; try clear hfz6_0; try clear hfz6_1
  obtain ⟨x6_1, x1000_1, x1001_1, x1002_1, u1000, rfl, HA, HK1, HO_5, HO_1000, BK0, BK496, HK, HB⟩ := hrel
  cases gk with
  | zero => exact absurd HA.out (by simp [impl_Prober_next.l0])
  | succ k1 =>
   have H := HA.out; clear HA
   simp only [impl_Prober_next.l0] at H
   have H' := Aside0.mk H
   clear H; have hnb8 := NB0_496.out; have hnc8 := NB496_0.out; obtain ⟨hcz9_0, hcz9_1, hcz9_2, hcz9_3, hcz9_4, hcz9_5⟩ := blkz6 BK0.out; have hfz9_0 := blkf BK0.out
   go_wp2
   go_loopg [7] k1 (fun kq v7 w' => ∃ (x7_2 : Int) (x1001_2 : Int), v7 = .int .i64 x7_2 ∧ Aside0 (impl_Prober_next.l1 kq t497 x6_1 x7_2 x1000_1 x1001_2 x1002_1 a0_3 a0_4 a0_5 = some (r1, r2, r3, r4, r5, r6, r7)) ∧ Aside0 (kq ≤ k1) ∧ Aside0 (Kd.R (Kd.int .i64) 3 w' w0.heap.size (fun k_ => (P0_0_ k_ ∨ w.heap.size ≤ k_) ∧ some k_ ≠ (u1000 : Value).ownBlock) v498 t497) ∧ Aside0 (Kd.R (Kd.int .i64) 3 w' w0.heap.size (fun k_ => (P0_0_ k_ ∨ w.heap.size ≤ k_) ∧ some k_ ≠ (v498 : Value).ownBlock) u1000 x1000_1) ∧ Aside0 (w'.heap[g]? = some (.cells #[u1000, .int .i64 x1001_2, .int .i64 x1002_1, .int .i64 a0_3, .int .i64 a0_4, .int .i64 a0_5] 25 (0, 0))) ∧ Aside0 (w'.heap[gb496]? = some (.cells #[.int .i64 a1_0, (.slice A1_1 l1_1.length c1_1)] 28 (0, 0))) ∧ Aside0 (Kept w w' (fun k_ => (P0_0_ k_) ∨ k_ = g)) ∧ Aside0 (Below w0.heap.size w0 w'))
   case atStart => exact ⟨(x1001_1), (x1001_1), (by first | rfl | (simp; done) | (simp [*]; done)), H', ⟨Nat.le_refl _⟩, ⟨by exact Kd.R_nw HO_5.out⟩, ⟨by exact Kd.R_nw HO_1000.out⟩, ⟨by exact blk_nw BK0.out⟩, ⟨by exact blk_nw BK496.out⟩, ⟨by exact kpt⟩, ⟨by exact bel0⟩⟩
   case round =>
    clear H'
    try clear c1; try clear p2; try clear c3; try clear c4; try clear c5; try clear c8; try clear hcz6_0; try clear hcz6_1; try clear hcz9_0; try clear hcz9_1; try clear hcz9_2; try clear hcz9_3; try clear hcz9_4; try clear hcz9_5; try clear hfz6_0; try clear hfz6_1; try clear hfz9_0; try clear hfz9_1; try clear hfz9_2; try clear hfz9_3; try clear hfz9_4; try clear hfz9_5; try clear p2
    obtain ⟨x7_2, x1001_2, rfl, HA, HK2, HO_5, HO_1000, BK0, BK496, HK, HB⟩ := hrel
    cases gk with
    | zero => exact absurd HA.out (by simp [impl_Prober_next.l1])
    | succ k2 =>
     have H := HA.out; clear HA
     simp only [impl_Prober_next.l1] at H
     by_cases c10 : x7_2 < (x1000_1.length : Int)
     ·rw [if_pos c10] at H
      have c10b0 : decide (x7_2 < (x1000_1.length : Int)) = true := decide_eq_true c10
      clear c10; (try simp only [c10b0])
      by_cases c11 : 0 ≤ x7_2
      ·rw [if_pos c11] at H; have c11b0 : decide (0 ≤ x7_2) = true := decide_eq_true c11; clear c11; (try simp only [c11b0]); replace H := Option.bind_eq_some_iff.mp H; obtain ⟨t501, A120, H⟩ := H; have A12 := Aside0.mk A120; clear A120; have hnb13 := NB0_496.out; have hnc13 := NB496_0.out; obtain ⟨hcz14_0, hcz14_1, hcz14_2, hcz14_3, hcz14_4, hcz14_5⟩ := blkz6 BK0.out; have hfz14_0 := blkf BK0.out
       obtain ⟨Ao15, co15, eo15⟩ := Kd.R_slice HO_1000.out
       subst eo15
       have p500 : 0 ≤ (x7_2 : Int) := of_decide_eq_true (by first | (with_reducible assumption) | assumption)
       have q500 : x7_2 < (x1000_1.length : Int) := of_decide_eq_true (by first | (with_reducible assumption) | assumption)
       obtain ⟨ad500, e500, hx500_0⟩ := Kd.at_int (Kd.R_reads' HO_1000.out).2.2 x7_2 p500 q500
       cases e500
       replace p500 := eq_true p500
       replace q500 := eq_true q500
       obtain ⟨Ao16, co16, eo16⟩ := Kd.R_slice HO_5.out
       subst eo16
       replace H := Aside0.mk H
       go_wp2_with (first | ((with_reducible refine gate_callee (f := 26) rfl ?_); refine goesL_ (some 33) rfl rfl Try.func26 (by kernel_rfl) rfl #[.slice Ao16 t497.length co16, .int .i64 (rd x1000_1 x7_2)] rfl (by (try simp only [List.map_toArray, List.map_cons, List.map_nil]); first | done | rfl | (simp only [List.length_drop, List.length_take]; rfl)) ?_; (with_reducible refine (slices_Contains_int_int.calls k2 _ _ t497 (rd x1000_1 x7_2) t501 _ ?side1 ?side2 A12.out).mono ?_); (case side1 => repeat (first | exact (Kd.R_reads' HO_5.out).2.2 | (with_reducible refine Kd.C_alloc ?_ _) | (with_reducible refine Kd.C_drewN ?_ _) | (with_reducible refine Kd.C_drew ?_))); (case side2 => exact (Kd.R_reads' HO_5.out).2.1); rintro e w' ⟨rfl, ⟨nd, rfl⟩⟩; refine ⟨_, rfl, ?_⟩; (try (rw [drewN_self wr]; generalize hq_ : World.drewN wr _ = wr; have n0_ : Aside0 (Kd.R (Kd.int .i64) 3 wr w0.heap.size (fun k_ => (P0_0_ k_ ∨ w.heap.size ≤ k_) ∧ some k_ ≠ (.slice Ao16 t497.length co16 : Value).ownBlock) (.slice (some ad500) x1000_1.length co15) x1000_1) := ⟨by rw [← hq_]; exact (by exact Kd.R_nw HO_1000.out)⟩; have n1_ : Aside0 (Kd.R (Kd.int .i64) 3 wr w0.heap.size (fun k_ => (P0_0_ k_ ∨ w.heap.size ≤ k_) ∧ some k_ ≠ (.slice (some ad500) x1000_1.length co15 : Value).ownBlock) (.slice Ao16 t497.length co16) t497) := ⟨by rw [← hq_]; exact (by exact Kd.R_nw HO_5.out)⟩; have n2_ : Aside0 (wr.heap[g]? = some (.cells #[.slice (some ad500) x1000_1.length co15, .int .i64 x1001_2, .int .i64 x1002_1, .int .i64 a0_3, .int .i64 a0_4, .int .i64 a0_5] 25 (0, 0))) := ⟨by rw [← hq_]; exact (by exact blk_nw BK0.out)⟩; have n3_ : Aside0 (wr.heap[gb496]? = some (.cells #[.int .i64 a1_0, .slice A1_1 l1_1.length c1_1] 28 (0, 0))) := ⟨by rw [← hq_]; exact (by exact blk_nw BK496.out)⟩; have n4_ : Aside0 (Kept w wr (fun k_ => (P0_0_ k_) ∨ k_ = g)) := ⟨by rw [← hq_]; exact (by exact kpt)⟩; have n5_ : Aside0 (Below w0.heap.size w0 wr) := ⟨by rw [← hq_]; exact (by exact bel0)⟩; clear HO_1000 HO_5 BK0 BK496 HK HB hq_; have HO_1000 := n0_; have HO_5 := n1_; have BK0 := n2_; have BK496 := n3_; have HK := n4_; have HB := n5_; clear n0_ n1_ n2_ n3_ n4_ n5_)); refine Stop.out ?_))
       refine Stop.mk ?_
       replace H := H.out
       by_cases c17 : t501 = true
       ·subst c17; rw [if_pos rfl] at H; simp only [Option.some.injEq, Prod.mk.injEq] at H; obtain ⟨rfl, rfl, rfl, rfl, rfl, rfl, rfl⟩ := H; have hnb18 := NB0_496.out; have hnc18 := NB496_0.out; obtain ⟨hcz19_0, hcz19_1, hcz19_2, hcz19_3, hcz19_4, hcz19_5⟩ := blkz6 BK0.out; have hfz19_0 := blkf BK0.out
        have p502 : 0 ≤ (x7_2 : Int) := of_decide_eq_true (by first | (with_reducible assumption) | assumption)
        have q502 : x7_2 < (x1000_1.length : Int) := of_decide_eq_true (by first | (with_reducible assumption) | assumption)
        obtain ⟨ad502, e502, hx502_0⟩ := Kd.at_int (Kd.R_reads' HO_1000.out).2.2 x7_2 p502 q502
        obtain rfl : ad500 = ad502 := (by injection e502)
        have hn502_0 : ad500.block ≠ g := Kd.own_blk (Kd.R_ne HO_1000.out BK0.out (by decide))
        replace hx502_0 := (cell_far (p := ⟨g, 1, none⟩) (by first | (rw [add_block]; exact hn502_0) | (show (Addr.add _ _).block ≠ _; rw [add_block]; exact hn502_0) | exact hn502_0) (.int .i64 (wrap64 (x7_2 + 1)))).trans hx502_0
        clear hn502_0
        replace p502 := eq_true p502
        replace q502 := eq_true q502
        go_wp2
        go_ret
        exact ⟨by first | rfl | (simp [errW_none, errW_some] <;> rfl) | (simp [*, errW_none, errW_some] <;> rfl), (.slice (some ad500) x1000_1.length co15), by exact Kd.R_mono (Kd.R_farN HO_1000.out BK0.out) (fun _ hk => hk.1), by (with_reducible repeat (first | refine blk_drewN ?_ _ | refine blk_drew ?_ | refine blk_alloc ?_ _)); refine blk_put (cs := #[.slice (some ad500) x1000_1.length co15, .int .i64 x1001_2, .int .i64 x1002_1, .int .i64 a0_3, .int .i64 a0_4, .int .i64 a0_5]) ?_ 1 _ rfl; (with_reducible repeat (first | refine blk_drewN ?_ _ | refine blk_drew ?_ | refine blk_alloc ?_ _)); exact BK0.out, by exact bel0, by exact kpt⟩
       ·replace c17 := Bool.eq_false_iff.mpr c17
        subst c17
        rw [if_neg (show ¬ (false = true) by decide)] at H
        have H' := Aside0.mk H
        clear H
        go_wp2
        go_roundg k2
        case measure => have := HK1.out; have := HK2.out; omega
        case rel => exact ⟨(wrap64 (x7_2 + 1)), (x1001_2), (by first | rfl | (simp; done) | (simp [*]; done)), H', ⟨by have := HK1.out; have := HK2.out; omega⟩, ⟨by exact Kd.R_nw HO_5.out⟩, ⟨by exact Kd.R_nw HO_1000.out⟩, ⟨by exact blk_nw BK0.out⟩, ⟨by exact blk_nw BK496.out⟩, ⟨by exact kpt⟩, ⟨by exact bel0⟩⟩
      ·rw [if_neg c11] at H
       exact absurd H (by simp)
     ·rw [if_neg c10] at H
      have c10b0 : decide (x7_2 < (x1000_1.length : Int)) = false := decide_eq_false c10
      clear c10; (try simp only [c10b0]); replace H := Option.bind_eq_some_iff.mp H
      obtain ⟨⟨t503, t504⟩, A200, H⟩ := H
      replace H : (if x6_1 = 1 then (some ((-1), t503, 0, t504, a0_3, a0_4, a0_5)) else (impl_Prober_next.l0 k2 t497 (wrap64 (x6_1 + 1)) t503 0 t504 a0_3 a0_4 a0_5)) = some (r1, r2, r3, r4, r5, r6, r7) := H
      have A20 := Aside0.mk A200; clear A200; have hnb21 := NB0_496.out; have hnc21 := NB496_0.out; obtain ⟨hcz22_0, hcz22_1, hcz22_2, hcz22_3, hcz22_4, hcz22_5⟩ := blkz6 BK0.out; have hfz22_0 := blkf BK0.out
      obtain ⟨Ao23, co23, eo23⟩ := Kd.R_slice HO_1000.out
      subst eo23
      obtain ⟨Ao24, co24, eo24⟩ := Kd.R_slice HO_5.out
      subst eo24
      replace H := Aside0.mk H
      go_wp2_with (first | ((with_reducible refine gate_callee (f := 43) rfl ?_); refine goesL_ (some 54) rfl rfl Try.func43 (by kernel_rfl) rfl #[.slice Ao24 t497.length co24, .int .i64 x1002_1] rfl (by (try simp only [List.map_toArray, List.map_cons, List.map_nil]); first | done | rfl | (simp only [List.length_drop, List.length_take]; rfl)) ?_; (with_reducible refine (impl_Shuffle.calls k2 _ _ t497 x1002_1 t503 t504 _ ?side1 ?side2 A20.out).mono ?_); (case side1 => repeat (first | exact (Kd.R_reads' HO_5.out).2.2 | (with_reducible refine Kd.C_alloc ?_ _) | (with_reducible refine Kd.C_drewN ?_ _) | (with_reducible refine Kd.C_drew ?_))); (case side2 => exact (Kd.R_reads' HO_5.out).2.1); rintro e w25 ⟨v505, rfl, ho0, hb⟩; refine ⟨_, rfl, ?_⟩; have n_ := an (Kd.R_elder' (by exact Kd.R_nw HO_5.out) (Kd.R_base ho0) hb) (an (Kd.R_elder' (by exact Kd.R_nw HO_1000.out) (Kd.R_base ho0) hb) (an (Kd.R_lower (Kd.R_new' (Kd.R_new' (Kd.R_newM (M := fun k_ => (P0_0_ k_ ∨ w.heap.size ≤ k_)) ho0 (by first | exact HK.out.1 | exact (show Kept w _ (fun k_ => (P0_0_ k_) ∨ k_ = g) from by exact kpt).1) (fun k_ h_ => .inr h_)) (Kd.R_lt (by exact Kd.R_nw HO_5.out))) (Kd.R_lt (by exact Kd.R_nw HO_1000.out))) (below_size (by exact bel0))) (an (blk_below (blk_nw BK0.out) hb) (an (blk_below (blk_nw BK496.out) hb) (an (Kept.below (S := (fun k_ => (P0_0_ k_) ∨ k_ = g)) (by exact kpt) hb) (an (below_step (by exact bel0) hb) (trivial))))))); clear HO_5 HO_1000 BK0 BK496 HK HB; obtain ⟨HO_5, HO_1000, HO506, BK0, BK496, HK, HB, -⟩ := n_; (try clear hb); (try clear hb2); (try clear hk); (try clear hi); (try clear ho0); obtain ⟨Ao26, co26, eo26⟩ := Kd.R_slice HO506.out; subst eo26; obtain ⟨hcz27_0, hcz27_1, hcz27_2, hcz27_3, hcz27_4, hcz27_5⟩ := blkz6 BK0.out; have hfz27_0 := blkf BK0.out; refine Stop.out ?_))
      refine Stop.mk ?_
      replace H := H.out
      by_cases c28 : x6_1 = 1
      ·rw [if_pos c28] at H; have c28b0 : (x6_1 == 1) = true := beq_iff_eq.mpr c28; have c28b1 : (x6_1 != 1) = false := bne_eq_false_iff_eq.mpr c28; clear c28; simp only [Option.some.injEq, Prod.mk.injEq] at H; obtain ⟨rfl, rfl, rfl, rfl, rfl, rfl, rfl⟩ := H
       go_wp2
       go_ret
       exact ⟨by first | rfl | (simp [errW_none, errW_some] <;> rfl) | (simp [*, errW_none, errW_some] <;> rfl), (.slice Ao26 t503.length co26), by exact Kd.R_mono (Kd.R_farN HO506.out BK0.out) (fun _ hk => hk.1.1.1), by (with_reducible repeat (first | refine blk_drewN ?_ _ | refine blk_drew ?_ | refine blk_alloc ?_ _)); refine blk_put (cs := #[.slice Ao26 t503.length co26, .int .i64 x1001_2, .int .i64 t504, .int .i64 a0_3, .int .i64 a0_4, .int .i64 a0_5]) ?_ 1 _ rfl; (with_reducible repeat (first | refine blk_drewN ?_ _ | refine blk_drew ?_ | refine blk_alloc ?_ _)); refine blk_put (cs := #[.slice Ao26 t503.length co26, .int .i64 x1001_2, .int .i64 x1002_1, .int .i64 a0_3, .int .i64 a0_4, .int .i64 a0_5]) ?_ 2 _ rfl; (with_reducible repeat (first | refine blk_drewN ?_ _ | refine blk_drew ?_ | refine blk_alloc ?_ _)); refine blk_put (cs := #[.slice Ao23 x1000_1.length co23, .int .i64 x1001_2, .int .i64 x1002_1, .int .i64 a0_3, .int .i64 a0_4, .int .i64 a0_5]) ?_ 0 _ rfl; (with_reducible repeat (first | refine blk_drewN ?_ _ | refine blk_drew ?_ | refine blk_alloc ?_ _)); exact BK0.out, by exact bel0, by exact kpt⟩
      ·rw [if_neg c28] at H; have c28b0 : (x6_1 == 1) = false := beq_eq_false_iff_ne.mpr c28; have c28b1 : (x6_1 != 1) = true := bne_iff_ne.mpr c28
       have H' := Aside0.mk H
       clear H
       go_wp2
       go_roundg k2
       case measure => have := HK1.out; have := HK2.out; omega
       case rel => exact ⟨(wrap64 (x6_1 + 1)), (t503), (0), (t504), (.slice Ao26 t503.length co26), (by first | rfl | (simp; done) | (simp [*]; done)), H', ⟨by have := HK1.out; have := HK2.out; omega⟩, ⟨by exact Kd.R_mono (Kd.R_farN HO_5.out BK0.out) (fun _ hk => ⟨hk.1.1, hk.2⟩)⟩, ⟨by exact Kd.R_mono (Kd.R_farN HO506.out BK0.out) (fun _ hk => ⟨hk.1.1.1, hk.1.2⟩)⟩, ⟨by (with_reducible repeat (first | refine blk_drewN ?_ _ | refine blk_drew ?_ | refine blk_alloc ?_ _)); refine blk_put (cs := #[.slice Ao26 t503.length co26, .int .i64 x1001_2, .int .i64 t504, .int .i64 a0_3, .int .i64 a0_4, .int .i64 a0_5]) ?_ 1 _ rfl; (with_reducible repeat (first | refine blk_drewN ?_ _ | refine blk_drew ?_ | refine blk_alloc ?_ _)); refine blk_put (cs := #[.slice Ao26 t503.length co26, .int .i64 x1001_2, .int .i64 x1002_1, .int .i64 a0_3, .int .i64 a0_4, .int .i64 a0_5]) ?_ 2 _ rfl; (with_reducible repeat (first | refine blk_drewN ?_ _ | refine blk_drew ?_ | refine blk_alloc ?_ _)); refine blk_put (cs := #[.slice Ao23 x1000_1.length co23, .int .i64 x1001_2, .int .i64 x1002_1, .int .i64 a0_3, .int .i64 a0_4, .int .i64 a0_5]) ?_ 0 _ rfl; (with_reducible repeat (first | refine blk_drewN ?_ _ | refine blk_drew ?_ | refine blk_alloc ?_ _)); exact BK0.out⟩, ⟨by exact blk_kb BK496.out NB496_0.out⟩, ⟨by exact kpt⟩, ⟨by exact bel0⟩⟩

end Go.Proofs.Ytpoedoefbeabkaa.XFnRounds
