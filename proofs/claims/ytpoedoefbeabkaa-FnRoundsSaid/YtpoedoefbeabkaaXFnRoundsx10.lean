-- Written by this session's own program (xprint.py) over the kit's print.
import Derived.Test.YtpoedoefbeabkaaXFnRoundsx0
import Derived.Test.YtpoedoefbeabkaaXFnRoundsx9
namespace Go.Proofs.Ytpoedoefbeabkaa.XFnRounds
open Go.RowKit Go.Proofs.YtpoedoefbeabkaaW.PrintWords Go.Proofs.YtpoedoefbeabkaaW.PrintLast Go.Proofs.YtpoedoefbeabkaaW.PrintMore
attribute [local go_sem] max2_int min2_int max_two min_two max_three min_three max_four min_four   -- for this text's walks alone
set_option linter.unusedVariables false
set_option linter.unusedSimpArgs false

/-! ### impl_ProberOk: function 9 -/
def impl_ProberOk.l0 : Nat → List Int → Int → Int → List Int → Int → Int → Int → Int → Int → Option (Bool)
  | 0, _, _, _, _, _, _, _, _, _ => none
  | k + 1, x6, x7, x8, x444000, x444001, x444002, x444003, x444004, x444005 => if x8 < x7 then (if 0 ≤ x8 then (if x8 < (x6.length : Int) then ((impl_within.f (rd x6 x8) 0 11).bind fun t445 => (if t445 = true then (if x8 ≤ (x444000.length : Int) then ((slices_Contains_int_int.f k (x444000.take (x8 : Int).toNat) (rd x6 x8)).bind fun t447 => (if t447 = true then (some false) else (impl_ProberOk.l0 k x6 x7 (wrap64 (x8 + 1)) x444000 x444001 x444002 x444003 x444004 x444005))) else (none)) else (some false))) else (none)) else (none)) else ((impl_within.f x444001 0 (x444000.length : Int)).bind fun t448 => (if t448 = true then ((impl_isSeed.f x444002).bind fun t449 => (if t449 = true then ((impl_within.f x444003 0 2).bind fun t450 => (if t450 = true then ((impl_within.f x444004 0 11).bind fun t451 => (if t451 = true then ((impl_within.f x444005 0 4).bind fun t452 => (if t452 = true then (if x444003 = 0 then (if x444004 = 0 then (some (x444005 == 0)) else (some false)) else (some true)) else (some false))) else (some false))) else (some false))) else (some false))) else (some false)))
def impl_ProberOk.f (k : Nat) (l0_0 : List Int) (a0_1 : Int) (a0_2 : Int) (a0_3 : Int) (a0_4 : Int) (a0_5 : Int) : Option (Bool) := impl_ProberOk.l0 k l0_0 (l0_0.length : Int) 0 l0_0 a0_1 a0_2 a0_3 a0_4 a0_5
theorem impl_ProberOk.mono_l : ∀ k, (∀ y0 y1 y2 y3 y4 y5 y6 y7 y8, LeO (impl_ProberOk.l0 k y0 y1 y2 y3 y4 y5 y6 y7 y8) (impl_ProberOk.l0 (k + 1) y0 y1 y2 y3 y4 y5 y6 y7 y8))
 | 0 => fun _ _ _ _ _ _ _ _ _ r h => by simp [impl_ProberOk.l0] at h
 | k + 1 => by
  have ih0 := impl_ProberOk.mono_l k
  ·intro y0 y1 y2 y3 y4 y5 y6 y7 y8
   unfold impl_ProberOk.l0
   repeat' first
   | (with_reducible exact ih0 _ _ _ _ _ _ _ _ _)
   | (with_reducible exact slices_Contains_int_int.mono _ _ _)
   | (with_reducible exact LeO.refl _)
   | (with_reducible exact LeO.none _)
   | (with_reducible refine LeO.ite ?_ ?_)
   | (with_reducible refine LeO.bind ?_ (fun _ => ?_))
   | exact ih0 _ _ _ _ _ _ _ _ _
   | exact slices_Contains_int_int.mono _ _ _
   | exact LeO.none _
   | refine LeO.ite ?_ ?_
   | refine LeO.bind ?_ (fun _ => ?_)
theorem impl_ProberOk.mono : ∀ a0 a1 a2 a3 a4 a5 k, LeO (impl_ProberOk.f k a0 a1 a2 a3 a4 a5) (impl_ProberOk.f (k + 1) a0 a1 a2 a3 a4 a5) := by
 intro a0 a1 a2 a3 a4 a5 k
 have ih0 := impl_ProberOk.mono_l k
 unfold impl_ProberOk.f
 repeat' first
   | (with_reducible exact ih0 _ _ _ _ _ _ _ _ _)
   | (with_reducible exact slices_Contains_int_int.mono _ _ _)
   | (with_reducible exact LeO.refl _)
   | (with_reducible exact LeO.none _)
   | (with_reducible refine LeO.ite ?_ ?_)
   | (with_reducible refine LeO.bind ?_ (fun _ => ?_))
   | exact ih0 _ _ _ _ _ _ _ _ _
   | exact slices_Contains_int_int.mono _ _ _
   | exact LeO.none _
   | refine LeO.ite ?_ ?_
   | refine LeO.bind ?_ (fun _ => ?_)
set_option maxHeartbeats 8000000 in
set_option maxRecDepth 100000 in
theorem impl_ProberOk.calls (k : Nat) (A0_0 : Option Addr) (c0_0 : Nat) (l0_0 : List Int) (a0_1 : Int) (a0_2 : Int) (a0_3 : Int) (a0_4 : Int) (a0_5 : Int) (r : Bool) (w : World) (hr0_0 : Kd.C (Kd.int .i64) w A0_0 l0_0.length l0_0) (hc0_0 : l0_0.length ≤ c0_0) (h : impl_ProberOk.f k l0_0 a0_1 a0_2 a0_3 a0_4 a0_5 = some r) :
  Calls Try.prog 9 #[.agg #[.slice A0_0 l0_0.length c0_0, .int .i64 a0_1, .int .i64 a0_2, .int .i64 a0_3, .int .i64 a0_4, .int .i64 a0_5]] w fun e w' => e = .returned (.bool r) ∧ Below w.heap.size w w' := by
 have hu25 := Try.underlying25
 have HR0_0 := Aside0.mk hr0_0; have HC0_0 := Aside0.mk hc0_0; clear hr0_0 hc0_0
 have HB := Aside0.mk (Below.refl w.heap.size w)
 have H : (impl_ProberOk.l0 k l0_0 (l0_0.length : Int) 0 l0_0 a0_1 a0_2 a0_3 a0_4 a0_5) = some r := h
 clear h
 have H' := Aside0.mk H
 clear H; go_enter Try.func9, Try.ntmps9
 go_wp2_with (first | ((with_reducible refine gate_dst (N := 1) rfl ?_); refine box_event ?hg (N := 1) ?hd (cs := #[.slice A0_0 l0_0.length c0_0, .int .i64 a0_1, .int .i64 a0_2, .int .i64 a0_3, .int .i64 a0_4, .int .i64 a0_5]) (t := 25) ?hr ?_; (case hd => rfl); (case hg => rfl); (case hr => first | (go_simp; done) | (go_simp; rfl)); intro gb443 hg w2 hbox hb; have n_ := an (below_step (by exact bel0) hb) (an (hbox) (an ((by rw [hg]; exact (below_size (by exact bel0)) : w.heap.size ≤ gb443)) (an ((by rw [hg]; exact (below_size (by exact bel0)) : w.heap.size ≤ gb443)) (trivial)))); clear HB; obtain ⟨HB, BK443, GW443, GE443, -⟩ := n_; clear hb hbox hg; obtain ⟨hcz3_0, hcz3_1, hcz3_2, hcz3_3, hcz3_4, hcz3_5⟩ := blkz6 BK443.out; have hfz3_0 := blkf BK443.out))
 go_loopg [8] k (fun kq v8 w' => ∃ (x8_1 : Int), v8 = .int .i64 x8_1 ∧ Aside0 (impl_ProberOk.l0 kq l0_0 (l0_0.length : Int) x8_1 l0_0 a0_1 a0_2 a0_3 a0_4 a0_5 = some r) ∧ Aside0 (kq ≤ k) ∧ Aside0 (w'.heap[gb443]? = some (.cells #[(.slice A0_0 l0_0.length c0_0), .int .i64 a0_1, .int .i64 a0_2, .int .i64 a0_3, .int .i64 a0_4, .int .i64 a0_5] 25 (0, 0))) ∧ Aside0 (Below w.heap.size w w'))
 case atStart => exact ⟨(0), (by first | rfl | (simp; done) | (simp [*]; done)), H', ⟨Nat.le_refl _⟩, ⟨by exact blk_nw BK443.out⟩, ⟨by exact bel0⟩⟩
 case round =>
  clear H'
  try clear p2; try clear hcz3_0; try clear hcz3_1; try clear hcz3_2; try clear hcz3_3; try clear hcz3_4; try clear hcz3_5; try clear hfz3_0; try clear hfz3_1; try clear hfz3_2; try clear hfz3_3; try clear hfz3_4; try clear hfz3_5
  obtain ⟨x8_1, rfl, HA, HK1, BK443, HB⟩ := hrel
  cases gk with
  | zero => exact absurd HA.out (by simp [impl_ProberOk.l0])
  | succ k1 =>
   have H := HA.out; clear HA
   simp only [impl_ProberOk.l0] at H
   by_cases c4 : x8_1 < (l0_0.length : Int)
   ·rw [if_pos c4] at H
    have c4b0 : decide (x8_1 < (l0_0.length : Int)) = true := decide_eq_true c4
    clear c4; (try simp only [c4b0])
    by_cases c5 : 0 ≤ x8_1
    ·rw [if_pos c5] at H; have c5b0 : decide (0 ≤ x8_1) = true := decide_eq_true c5; clear c5; (try simp only [c5b0])
     by_cases c6 : x8_1 < (l0_0.length : Int)
     ·rw [if_pos c6] at H
      have c6b0 : decide (x8_1 < (l0_0.length : Int)) = true := decide_eq_true c6
      clear c6; (try simp only [c6b0]); replace H := Option.bind_eq_some_iff.mp H; obtain ⟨t445, A70, H⟩ := H; have A7 := Aside0.mk A70; clear A70
      have p444 : 0 ≤ (x8_1 : Int) := of_decide_eq_true (by first | (with_reducible assumption) | assumption)
      have q444 : x8_1 < (l0_0.length : Int) := of_decide_eq_true (by first | (with_reducible assumption) | assumption)
      obtain ⟨ad444, e444, hx444_0⟩ := Kd.at_int HR0_0.out x8_1 p444 q444
      cases e444
      replace hx444_0 := (HB.out.cell (World.block_lt_of_cell? w _ hx444_0)).trans hx444_0
      replace p444 := eq_true p444
      replace q444 := eq_true q444
      replace H := Aside0.mk H
      go_wp2_with (first | ((with_reducible refine gate_callee (f := 25) rfl ?_); refine goesL_ (some 14) rfl rfl Try.func25 (by kernel_rfl) rfl #[.int .i64 (rd l0_0 x8_1), .int .i64 0, .int .i64 11] rfl (by (try simp only [List.map_toArray, List.map_cons, List.map_nil]); first | done | rfl | (simp only [List.length_drop, List.length_take]; rfl)) ?_; (with_reducible refine (impl_within.calls (rd l0_0 x8_1) 0 11 t445 _ A7.out).mono ?_); rintro e w' ⟨rfl, ⟨nd, rfl⟩⟩; refine ⟨_, rfl, ?_⟩; refine Stop.out ?_))
      refine Stop.mk ?_
      replace H := H.out
      by_cases c8 : t445 = true
      ·subst c8; rw [if_pos rfl] at H
       have c9b0 := eq_true (of_decide_eq_true (by first | (with_reducible assumption) | assumption) : 0 ≤ x8_1)
       by_cases c10 : x8_1 ≤ (l0_0.length : Int)
       ·rw [if_pos c10] at H
        have c10b0 := eq_true c10
        have c10b1 : decide (x8_1 ≤ (l0_0.length : Int)) = true := decide_eq_true c10
        clear c10; replace H := Option.bind_eq_some_iff.mp H; obtain ⟨t447, A110, H⟩ := H; have A11 := Aside0.mk A110; clear A110; obtain ⟨hcz12_0, hcz12_1, hcz12_2, hcz12_3, hcz12_4, hcz12_5⟩ := blkz6 BK443.out; have hfz12_0 := blkf BK443.out
        obtain ⟨i013, hi013, _, hsz13, _⟩ := info_parts info3
        obtain ⟨hcut13, hA13, hC13⟩ := print_take_of (P := Try.prog) (Value.int .i64) 0 23 3 .i64 Try.underlying23 hi013 hsz13 (some ad444) c0_0 l0_0 x8_1 (of_decide_eq_true (by first | (with_reducible assumption) | assumption)) (of_decide_eq_true (by first | (with_reducible assumption) | assumption)) HC0_0.out
        have HR446 := Aside0.mk (Kd.C_of_reads (h1 := fun _ => rfl) (hA13 _ (Kd.reads_of_C HR0_0.out)))
        have HC446 := Aside0.mk hC13; clear hA13 hC13 hi013 hsz13
        replace H := Aside0.mk H
        go_wp2_with (first | (go_at_call 26; refine calls_of_args (args' := #[.slice (some ad444) (l0_0.take (x8_1 : Int).toNat).length c0_0, .int .i64 (rd l0_0 x8_1)]) (by first | (rw [show (l0_0.take (x8_1 : Int).toNat).length = x8_1.toNat from (by rw [List.length_take]; have h_ : (x8_1 : Int) ≤ (l0_0.length : Int) := of_decide_eq_true (by first | (with_reducible assumption) | assumption); omega)] <;> rfl) | rfl) ?_; (with_reducible refine (slices_Contains_int_int.calls k1 _ _ (l0_0.take (x8_1 : Int).toNat) (rd l0_0 x8_1) t447 _ ?side1 ?side2 A11.out).mono ?_); (case side1 => repeat (first | exact (Kd.C_below HR446.out HB.out) | (with_reducible refine Kd.C_alloc ?_ _) | (with_reducible refine Kd.C_drewN ?_ _) | (with_reducible refine Kd.C_drew ?_))); (case side2 => exact HC446.out); rintro e w' ⟨rfl, ⟨nd, rfl⟩⟩; refine Stop.out ?_))
        refine Stop.mk ?_
        replace H := H.out
        by_cases c14 : t447 = true
        ·subst c14; rw [if_pos rfl] at H
         obtain rfl := Option.some.inj H
         go_wp2
         go_ret
         exact ⟨by first | rfl | (simp [errW_none, errW_some] <;> rfl) | (simp [*, errW_none, errW_some] <;> rfl), by exact bel0⟩
        ·replace c14 := Bool.eq_false_iff.mpr c14
         subst c14
         rw [if_neg (show ¬ (false = true) by decide)] at H
         have H' := Aside0.mk H
         clear H
         go_wp2
         go_roundg k1
         case measure => have := HK1.out; omega
         case rel => exact ⟨(wrap64 (x8_1 + 1)), (by first | rfl | (simp; done) | (simp [*]; done)), H', ⟨by have := HK1.out; omega⟩, ⟨by exact blk_nw BK443.out⟩, ⟨by exact bel0⟩⟩
       ·rw [if_neg c10] at H
        exact absurd H (by simp)
      ·replace c8 := Bool.eq_false_iff.mpr c8
       subst c8
       rw [if_neg (show ¬ (false = true) by decide)] at H
       obtain rfl := Option.some.inj H
       go_wp2
       go_ret
       exact ⟨by first | rfl | (simp [errW_none, errW_some] <;> rfl) | (simp [*, errW_none, errW_some] <;> rfl), by exact bel0⟩
     ·rw [if_neg c6] at H
      exact absurd H (by simp)
    ·rw [if_neg c5] at H
     exact absurd H (by simp)
   ·rw [if_neg c4] at H
    have c4b0 : decide (x8_1 < (l0_0.length : Int)) = false := decide_eq_false c4
    clear c4; (try simp only [c4b0]); replace H := Option.bind_eq_some_iff.mp H; obtain ⟨t448, A150, H⟩ := H; have A15 := Aside0.mk A150; clear A150; obtain ⟨hcz16_0, hcz16_1, hcz16_2, hcz16_3, hcz16_4, hcz16_5⟩ := blkz6 BK443.out; have hfz16_0 := blkf BK443.out
    replace H := Aside0.mk H
    go_wp2_with (first | ((with_reducible refine gate_callee (f := 25) rfl ?_); refine goesL_ (some 30) rfl rfl Try.func25 (by kernel_rfl) rfl #[.int .i64 a0_1, .int .i64 0, .int .i64 (l0_0.length : Int)] rfl (by (try simp only [List.map_toArray, List.map_cons, List.map_nil]); first | done | rfl | (simp only [List.length_drop, List.length_take]; rfl)) ?_; (with_reducible refine (impl_within.calls a0_1 0 (l0_0.length : Int) t448 _ A15.out).mono ?_); rintro e w' ⟨rfl, ⟨nd, rfl⟩⟩; refine ⟨_, rfl, ?_⟩; refine Stop.out ?_))
    refine Stop.mk ?_
    replace H := H.out
    by_cases c17 : t448 = true
    ·subst c17; rw [if_pos rfl] at H; replace H := Option.bind_eq_some_iff.mp H; obtain ⟨t449, A180, H⟩ := H; have A18 := Aside0.mk A180; clear A180; obtain ⟨hcz19_0, hcz19_1, hcz19_2, hcz19_3, hcz19_4, hcz19_5⟩ := blkz6 BK443.out; have hfz19_0 := blkf BK443.out
     replace H := Aside0.mk H
     go_wp2_with (first | (go_at_call 22; (with_reducible refine (impl_isSeed.calls a0_2 t449 _ A18.out).mono ?_); rintro e w' ⟨rfl, ⟨nd, rfl⟩⟩; refine Stop.out ?_))
     refine Stop.mk ?_
     replace H := H.out
     by_cases c20 : t449 = true
     ·subst c20; rw [if_pos rfl] at H; replace H := Option.bind_eq_some_iff.mp H; obtain ⟨t450, A210, H⟩ := H; have A21 := Aside0.mk A210; clear A210; obtain ⟨hcz22_0, hcz22_1, hcz22_2, hcz22_3, hcz22_4, hcz22_5⟩ := blkz6 BK443.out; have hfz22_0 := blkf BK443.out
      replace H := Aside0.mk H
      go_wp2_with (first | (go_at_call 25; (with_reducible refine (impl_within.calls a0_3 0 2 t450 _ A21.out).mono ?_); rintro e w' ⟨rfl, ⟨nd, rfl⟩⟩; refine Stop.out ?_))
      refine Stop.mk ?_
      replace H := H.out
      by_cases c23 : t450 = true
      ·subst c23; rw [if_pos rfl] at H; replace H := Option.bind_eq_some_iff.mp H; obtain ⟨t451, A240, H⟩ := H; have A24 := Aside0.mk A240; clear A240; obtain ⟨hcz25_0, hcz25_1, hcz25_2, hcz25_3, hcz25_4, hcz25_5⟩ := blkz6 BK443.out; have hfz25_0 := blkf BK443.out
       replace H := Aside0.mk H
       go_wp2_with (first | (go_at_call 25; (with_reducible refine (impl_within.calls a0_4 0 11 t451 _ A24.out).mono ?_); rintro e w' ⟨rfl, ⟨nd, rfl⟩⟩; refine Stop.out ?_))
       refine Stop.mk ?_
       replace H := H.out
       by_cases c26 : t451 = true
       ·subst c26; rw [if_pos rfl] at H; replace H := Option.bind_eq_some_iff.mp H; obtain ⟨t452, A270, H⟩ := H; have A27 := Aside0.mk A270; clear A270; obtain ⟨hcz28_0, hcz28_1, hcz28_2, hcz28_3, hcz28_4, hcz28_5⟩ := blkz6 BK443.out; have hfz28_0 := blkf BK443.out
        replace H := Aside0.mk H
        go_wp2_with (first | (go_at_call 25; (with_reducible refine (impl_within.calls a0_5 0 4 t452 _ A27.out).mono ?_); rintro e w' ⟨rfl, ⟨nd, rfl⟩⟩; refine Stop.out ?_))
        refine Stop.mk ?_
        replace H := H.out
        by_cases c29 : t452 = true
        ·subst c29; rw [if_pos rfl] at H
         by_cases c30 : a0_3 = 0
         ·rw [if_pos c30] at H; have c30b0 : (a0_3 == 0) = true := beq_iff_eq.mpr c30; have c30b1 : (a0_3 != 0) = false := bne_eq_false_iff_eq.mpr c30; clear c30
          by_cases c31 : a0_4 = 0
          ·rw [if_pos c31] at H; have c31b0 : (a0_4 == 0) = true := beq_iff_eq.mpr c31; have c31b1 : (a0_4 != 0) = false := bne_eq_false_iff_eq.mpr c31; clear c31
           obtain rfl := Option.some.inj H
           obtain ⟨hcz32_0, hcz32_1, hcz32_2, hcz32_3, hcz32_4, hcz32_5⟩ := blkz6 BK443.out; have hfz32_0 := blkf BK443.out
           go_wp2
           go_ret
           exact ⟨by first | rfl | (simp [errW_none, errW_some] <;> rfl) | (simp [*, errW_none, errW_some] <;> rfl), by exact bel0⟩
          ·rw [if_neg c31] at H; have c31b0 : (a0_4 == 0) = false := beq_eq_false_iff_ne.mpr c31; have c31b1 : (a0_4 != 0) = true := bne_iff_ne.mpr c31
           obtain rfl := Option.some.inj H
           obtain ⟨hcz33_0, hcz33_1, hcz33_2, hcz33_3, hcz33_4, hcz33_5⟩ := blkz6 BK443.out; have hfz33_0 := blkf BK443.out
           go_wp2
           go_ret
           exact ⟨by first | rfl | (simp [errW_none, errW_some] <;> rfl) | (simp [*, errW_none, errW_some] <;> rfl), by exact bel0⟩
         ·rw [if_neg c30] at H; have c30b0 : (a0_3 == 0) = false := beq_eq_false_iff_ne.mpr c30; have c30b1 : (a0_3 != 0) = true := bne_iff_ne.mpr c30
          obtain rfl := Option.some.inj H
          obtain ⟨hcz34_0, hcz34_1, hcz34_2, hcz34_3, hcz34_4, hcz34_5⟩ := blkz6 BK443.out; have hfz34_0 := blkf BK443.out
          go_wp2
          go_ret
          exact ⟨by first | rfl | (simp [errW_none, errW_some] <;> rfl) | (simp [*, errW_none, errW_some] <;> rfl), by exact bel0⟩
        ·replace c29 := Bool.eq_false_iff.mpr c29
         subst c29
         rw [if_neg (show ¬ (false = true) by decide)] at H
         obtain rfl := Option.some.inj H
         go_wp2
         go_ret
         exact ⟨by first | rfl | (simp [errW_none, errW_some] <;> rfl) | (simp [*, errW_none, errW_some] <;> rfl), by exact bel0⟩
       ·replace c26 := Bool.eq_false_iff.mpr c26
        subst c26
        rw [if_neg (show ¬ (false = true) by decide)] at H
        obtain rfl := Option.some.inj H
        go_wp2
        go_ret
        exact ⟨by first | rfl | (simp [errW_none, errW_some] <;> rfl) | (simp [*, errW_none, errW_some] <;> rfl), by exact bel0⟩
      ·replace c23 := Bool.eq_false_iff.mpr c23
       subst c23
       rw [if_neg (show ¬ (false = true) by decide)] at H
       obtain rfl := Option.some.inj H
       go_wp2
       go_ret
       exact ⟨by first | rfl | (simp [errW_none, errW_some] <;> rfl) | (simp [*, errW_none, errW_some] <;> rfl), by exact bel0⟩
     ·replace c20 := Bool.eq_false_iff.mpr c20
      subst c20
      rw [if_neg (show ¬ (false = true) by decide)] at H
      obtain rfl := Option.some.inj H
      go_wp2
      go_ret
      exact ⟨by first | rfl | (simp [errW_none, errW_some] <;> rfl) | (simp [*, errW_none, errW_some] <;> rfl), by exact bel0⟩
    ·replace c17 := Bool.eq_false_iff.mpr c17
     subst c17
     rw [if_neg (show ¬ (false = true) by decide)] at H
     obtain rfl := Option.some.inj H
     go_wp2
     go_ret
     exact ⟨by first | rfl | (simp [errW_none, errW_some] <;> rfl) | (simp [*, errW_none, errW_some] <;> rfl), by exact bel0⟩

/-! ### impl_MemberOk: function 39 -/
def impl_MemberOk.f (a0_0 : Int) (a0_1 : Int) (a0_2 : Int) : Option (Bool) := (impl_within.f a0_0 0 11).bind fun t454 => (if t454 = true then ((impl_within.f a0_1 0 3).bind fun t455 => (if t455 = true then ((impl_within.f a0_2 0 1000).bind fun t456 => (some t456)) else (some false))) else (some false))
set_option maxHeartbeats 8000000 in
set_option maxRecDepth 100000 in
theorem impl_MemberOk.calls (a0_0 : Int) (a0_1 : Int) (a0_2 : Int) (r : Bool) (w : World) (h : impl_MemberOk.f a0_0 a0_1 a0_2 = some r) :
  Calls Try.prog 39 #[.agg #[.int .i64 a0_0, .int .i64 a0_1, .int .i64 a0_2]] w fun e w' => e = .returned (.bool r) ∧ Below w.heap.size w w' := by
 have hu40 := Try.underlying40
 have HB := Aside0.mk (Below.refl w.heap.size w)
 have H : ((impl_within.f a0_0 0 11).bind fun t454 => (if t454 = true then ((impl_within.f a0_1 0 3).bind fun t455 => (if t455 = true then ((impl_within.f a0_2 0 1000).bind fun t456 => (some t456)) else (some false))) else (some false))) = some r := h
 clear h; replace H := Option.bind_eq_some_iff.mp H; obtain ⟨t454, A20, H⟩ := H; have A2 := Aside0.mk A20; clear A20; go_enter Try.func39, Try.ntmps39
 replace H := Aside0.mk H
 go_wp2_with (first | ((with_reducible refine gate_dst (N := 1) rfl ?_); refine box_event ?hg (N := 1) ?hd (cs := #[.int .i64 a0_0, .int .i64 a0_1, .int .i64 a0_2]) (t := 40) ?hr ?_; (case hd => rfl); (case hg => rfl); (case hr => first | (go_simp; done) | (go_simp; rfl)); intro gb453 hg w3 hbox hb; have n_ := an (below_step (by exact bel0) hb) (an (hbox) (an ((by rw [hg]; exact (below_size (by exact bel0)) : w.heap.size ≤ gb453)) (an ((by rw [hg]; exact (below_size (by exact bel0)) : w.heap.size ≤ gb453)) (trivial)))); clear HB; obtain ⟨HB, BK453, GW453, GE453, -⟩ := n_; clear hb hbox hg; obtain ⟨hcz4_0, hcz4_1, hcz4_2⟩ := blkz3 BK453.out; have hfz4_0 := blkf BK453.out) | ((with_reducible refine gate_callee (f := 25) rfl ?_); refine goesL_ (some 5) rfl rfl Try.func25 (by kernel_rfl) rfl #[.int .i64 a0_0, .int .i64 0, .int .i64 11] rfl (by (try simp only [List.map_toArray, List.map_cons, List.map_nil]); first | done | rfl | (simp only [List.length_drop, List.length_take]; rfl)) ?_; (with_reducible refine (impl_within.calls a0_0 0 11 t454 _ A2.out).mono ?_); rintro e w' ⟨rfl, ⟨nd, rfl⟩⟩; refine ⟨_, rfl, ?_⟩; refine Stop.out ?_))
 refine Stop.mk ?_
 replace H := H.out
 by_cases c5 : t454 = true
 ·subst c5; rw [if_pos rfl] at H; replace H := Option.bind_eq_some_iff.mp H; obtain ⟨t455, A60, H⟩ := H; have A6 := Aside0.mk A60; clear A60; obtain ⟨hcz7_0, hcz7_1, hcz7_2⟩ := blkz3 BK453.out; have hfz7_0 := blkf BK453.out
  replace H := Aside0.mk H
  go_wp2_with (first | (go_at_call 25; (with_reducible refine (impl_within.calls a0_1 0 3 t455 _ A6.out).mono ?_); rintro e w' ⟨rfl, ⟨nd, rfl⟩⟩; refine Stop.out ?_))
  refine Stop.mk ?_
  replace H := H.out
  by_cases c8 : t455 = true
  ·subst c8; rw [if_pos rfl] at H; replace H := Option.bind_eq_some_iff.mp H; obtain ⟨t456, A90, H⟩ := H; have A9 := Aside0.mk A90; clear A90
   obtain rfl := Option.some.inj H
   obtain ⟨hcz10_0, hcz10_1, hcz10_2⟩ := blkz3 BK453.out; have hfz10_0 := blkf BK453.out
   go_wp2_with (first | (go_at_call 25; (with_reducible refine (impl_within.calls a0_2 0 1000 t456 _ A9.out).mono ?_); rintro e w' ⟨rfl, ⟨nd, rfl⟩⟩))
   go_ret
   exact ⟨by first | rfl | (simp [errW_none, errW_some] <;> rfl) | (simp [*, errW_none, errW_some] <;> rfl), by exact bel0⟩
  ·replace c8 := Bool.eq_false_iff.mpr c8
   subst c8
   rw [if_neg (show ¬ (false = true) by decide)] at H
   obtain rfl := Option.some.inj H
   go_wp2
   go_ret
   exact ⟨by first | rfl | (simp [errW_none, errW_some] <;> rfl) | (simp [*, errW_none, errW_some] <;> rfl), by exact bel0⟩
 ·replace c5 := Bool.eq_false_iff.mpr c5
  subst c5
  rw [if_neg (show ¬ (false = true) by decide)] at H
  obtain rfl := Option.some.inj H
  go_wp2
  go_ret
  exact ⟨by first | rfl | (simp [errW_none, errW_some] <;> rfl) | (simp [*, errW_none, errW_some] <;> rfl), by exact bel0⟩

-- NOT PRINTED: function 49 (impl_Member_int)

/-! ### impl_Table_member: function 40 -/
def impl_Table_member.cmpI (a b : Int) : Int := if a < b then -1 else if a > b then 1 else 0
theorem impl_Table_member.nan_calls (x : Int) (w : World) : Calls Try.prog 60 #[.int .i64 x] w fun e w' => e = .returned (.bool false) ∧ w' = w := by
 go_enter Try.func60, Try.ntmps60
 go_wp2
 go_ret
 exact ⟨by simp, rfl⟩
theorem impl_Table_member.cmp_calls (x y : Int) (w : World) : Calls Try.prog 51 #[.int .i64 x, .int .i64 y] w fun e w' => e = .returned (.int .i64 (impl_Table_member.cmpI x y)) ∧ w' = w := by
 go_enter Try.func51, Try.ntmps51
 by_cases h1 : x < y
 ·have d1 : decide (x < y) = true := decide_eq_true h1
  go_wp2_with (go_at_call 60; refine (impl_Table_member.nan_calls _ _).mono ?_; rintro e w' ⟨rfl, rfl⟩)
  go_ret
  exact ⟨by simp [impl_Table_member.cmpI, h1], rfl⟩
 ·have d1 : decide (x < y) = false := decide_eq_false h1
  by_cases h2 : y < x
  ·have d2 : decide (y < x) = true := decide_eq_true h2
   go_wp2_with (go_at_call 60; refine (impl_Table_member.nan_calls _ _).mono ?_; rintro e w' ⟨rfl, rfl⟩)
   go_ret
   exact ⟨by simp [impl_Table_member.cmpI, h1, h2], rfl⟩
  ·have d2 : decide (y < x) = false := decide_eq_false h2
   go_wp2_with (go_at_call 60; refine (impl_Table_member.nan_calls _ _).mono ?_; rintro e w' ⟨rfl, rfl⟩)
   go_ret
   refine ⟨?_, rfl⟩
   show Ending.returned (.int .i64 0) = .returned (.int .i64 (impl_Table_member.cmpI x y))
   unfold impl_Table_member.cmpI
   rw [if_neg (by omega), if_neg (by omega)]
theorem impl_Table_member.key_calls (a0 a1 a2 id : Int) (w : World) : Calls Try.prog 50 #[.agg #[.int .i64 a0, .int .i64 a1, .int .i64 a2], .int .i64 id] w fun e w' => e = .returned (.int .i64 (impl_Table_member.cmpI a0 id)) ∧ Below w.heap.size w w' := by
 have hu40 := Try.underlying40
 go_enter Try.func50, Try.ntmps50
 go_wp2_with (go_at_call 51; refine (impl_Table_member.cmp_calls _ _ _).mono ?_; rintro e w' ⟨rfl, rfl⟩)
 go_ret
 exact ⟨rfl, by repeat (first | (with_reducible exact Below.refl _ _) | (with_reducible apply below_alloc))⟩
def impl_Table_member.srchl0 : Nat → List S40 → Int → Nat → Nat → Option (Int × Bool)
  | 0, _, _, _, _ => none
  | k + 1, x, id, lo, hi => if lo < hi then (if impl_Table_member.cmpI (rd_T40 x (((lo : Int) + (hi : Int)) / 2)).f0 id < 0 then impl_Table_member.srchl0 k x id ((lo + hi) / 2 + 1) hi else impl_Table_member.srchl0 k x id lo ((lo + hi) / 2))
    else some ((lo : Int), decide (lo < x.length) && (impl_Table_member.cmpI (rd_T40 x (lo : Int)).f0 id == 0))
def impl_Table_member.srchf (k : Nat) (x : List S40) (id : Int) : Option (Int × Bool) := if x.length < 4611686018427387904 then impl_Table_member.srchl0 k x id 0 x.length else none
set_option maxHeartbeats 8000000 in
set_option maxRecDepth 100000 in
theorem impl_Table_member.srchcalls (k : Nat) (A0 : Option Addr) (c0 : Nat) (l0 : List S40) (id r1 : Int) (r2 : Bool) (w : World) (hr0 : Kd.C k40 w A0 l0.length l0) (hc0 : l0.length ≤ c0) (h : impl_Table_member.srchf k l0 id = some (r1, r2)) :
  Calls Try.prog 49 #[.slice A0 l0.length c0, .int .i64 id, .func (.func 50) #[] #[]] w fun e w' => e = .returned (.tuple #[.int .i64 r1, .bool r2]) ∧ Below w.heap.size w w' := by
 have hu40 := Try.underlying40
 have HR0 := Aside0.mk hr0; clear hr0 hc0
 unfold impl_Table_member.srchf at h
 by_cases hsz : l0.length < 4611686018427387904
 ·rw [if_pos hsz] at h
  have HB0 := Aside0.mk (Below.refl w.heap.size w)
  have H' := Aside0.mk h
  clear h; go_enter Try.func49, Try.ntmps49
  go_wp2
  go_loopg [9, 10] k (fun kx s9 s10 wr => ∃ lo hi : Nat, s9 = .int .i64 lo ∧ s10 = .int .i64 hi ∧ lo ≤ hi ∧ hi ≤ l0.length ∧ Aside0 (impl_Table_member.srchl0 kx l0 id lo hi = some (r1, r2)) ∧ Aside0 (Below w.heap.size w wr))
  case atStart => exact ⟨0, l0.length, rfl, rfl, Nat.zero_le _, Nat.le_refl _, H', HB0⟩
  case round =>
   clear H' HB0
   obtain ⟨lo, hi, rfl, rfl, hlh, hin, HA, HB⟩ := hrel
   cases gk with
   | zero => exact absurd HA.out (by simp [impl_Table_member.srchl0])
   | succ k1 =>
    have H := HA.out; clear HA
    simp only [impl_Table_member.srchl0] at H
    by_cases hlt : lo < hi
    ·rw [if_pos hlt] at H
     obtain ⟨ad, ead, hx0, hx1, hx2⟩ := at_T40 HR0.out (((lo : Int) + (hi : Int)) / 2) (by omega) (by omega)
     cases ead
     replace hx0 := pw_cell_below HB.out hx0
     replace hx1 := pw_cell_below HB.out hx1
     replace hx2 := pw_cell_below HB.out hx2
     have e_ : (((lo : Int) + (hi : Int)) / 2).toNat = (lo + hi) / 2 := by omega
     rw [e_] at hx0 hx1 hx2
     by_cases hc : impl_Table_member.cmpI (rd_T40 l0 (((lo : Int) + (hi : Int)) / 2)).f0 id < 0
     ·rw [if_pos hc] at H; have H2 := Aside0.mk H; clear H
      go_wp2_with (go_at_call 50; refine (impl_Table_member.key_calls _ _ _ _ _).mono ?_; rintro e w2 ⟨rfl, hb⟩)
      go_roundg k1
      case measure => omega
      case rel => exact ⟨(lo + hi) / 2 + 1, hi, by rw [show ((lo : Int) + (hi : Int)) / 2 + 1 = (((lo + hi) / 2 + 1 : Nat) : Int) by omega], rfl, by omega, hin, H2, ⟨below_step HB.out hb⟩⟩
     ·rw [if_neg hc] at H; have H2 := Aside0.mk H; clear H
      go_wp2_with (go_at_call 50; refine (impl_Table_member.key_calls _ _ _ _ _).mono ?_; rintro e w2 ⟨rfl, hb⟩)
      go_roundg k1
      case measure => omega
      case rel => exact ⟨lo, (lo + hi) / 2, rfl, by rw [show ((lo : Int) + (hi : Int)) / 2 = (((lo + hi) / 2 : Nat) : Int) by omega], by omega, by omega, H2, ⟨below_step HB.out hb⟩⟩
    ·rw [if_neg hlt] at H
     obtain rfl : hi = lo := by omega
     simp only [Option.some.injEq, Prod.mk.injEq] at H; obtain ⟨rfl, rfl⟩ := H
     by_cases hn : hi < l0.length
     ·obtain ⟨ad, ead, hx0, hx1, hx2⟩ := at_T40 HR0.out (hi : Int) (by omega) (by omega)
      cases ead
      replace hx0 := pw_cell_below HB.out hx0
      replace hx1 := pw_cell_below HB.out hx1
      replace hx2 := pw_cell_below HB.out hx2
      rw [Int.toNat_natCast] at hx0 hx1 hx2
      go_wp2_with (go_at_call 50; refine (impl_Table_member.key_calls _ _ _ _ _).mono ?_; rintro e w2 ⟨rfl, hb⟩)
      go_ret2
      exact ⟨by simp [hn], below_step HB.out hb⟩
     ·go_wp2
      go_ret2
      exact ⟨by simp [hn], HB.out⟩
 ·rw [if_neg hsz] at h
  exact absurd h (by simp)
theorem impl_Table_member.srchmono_l : ∀ (k : Nat) (x : List S40) (id : Int) (lo hi : Nat), LeO (impl_Table_member.srchl0 k x id lo hi) (impl_Table_member.srchl0 (k + 1) x id lo hi)
 | 0, _, _, _, _ => fun r h => by simp [impl_Table_member.srchl0] at h
 | k + 1, x, id, lo, hi => by
  have ih := impl_Table_member.srchmono_l k
  rw [impl_Table_member.srchl0, impl_Table_member.srchl0]
  repeat' first
   | (with_reducible exact ih _ _ _ _)
   | (with_reducible exact LeO.refl _)
   | (with_reducible refine LeO.ite ?_ ?_)
def impl_Table_member.f (k : Nat) (a0_0 : Int) (l0_1 : List S40) (a1 : Int) : Option (Int × Bool) := impl_Table_member.srchf k l0_1 a1
theorem impl_Table_member.mono : ∀ a0 a1 a2 k, LeO (impl_Table_member.f k a0 a1 a2) (impl_Table_member.f (k + 1) a0 a1 a2) := by
 intro a0 a1 a2 k
 unfold impl_Table_member.f impl_Table_member.srchf
 refine LeO.ite (impl_Table_member.srchmono_l _ _ _ _ _) (LeO.refl _)
set_option maxHeartbeats 8000000 in
set_option maxRecDepth 100000 in
theorem impl_Table_member.calls (k : Nat) (a0_0 : Int) (A0_1 : Option Addr) (c0_1 : Nat) (l0_1 : List S40) (a1 : Int) (r1 : Int) (r2 : Bool) (w : World) (hr0_1 : Kd.C k40 w A0_1 l0_1.length l0_1) (hc0_1 : l0_1.length ≤ c0_1) (h : impl_Table_member.f k a0_0 l0_1 a1 = some (r1, r2)) :
  Calls Try.prog 40 #[.agg #[.int .i64 a0_0, .slice A0_1 l0_1.length c0_1], .int .i64 a1] w fun e w' => e = .returned (.tuple #[.int .i64 r1, .bool r2]) ∧ Below w.heap.size w w' := by
 have hu28 := Try.underlying28
 go_enter Try.func40, Try.ntmps40
 go_wp2_with (go_at_call 49; refine (impl_Table_member.srchcalls k _ _ _ _ _ _ _ ?side1 hc0_1 h).mono ?_; (case side1 => repeat (first | exact hr0_1 | (with_reducible refine Kd.C_alloc ?_ _))); rintro e w' ⟨rfl, hb⟩)
 go_ret2
 exact ⟨rfl, below_step (by repeat (first | (with_reducible exact Below.refl _ _) | (with_reducible apply below_alloc))) hb⟩

end Go.Proofs.Ytpoedoefbeabkaa.XFnRounds
