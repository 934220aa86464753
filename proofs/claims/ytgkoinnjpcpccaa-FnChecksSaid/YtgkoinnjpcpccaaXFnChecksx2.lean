-- Written by this session's own program (xprint.py) over the kit's print.
import Derived.Test.YtgkoinnjpcpccaaXFnChecksx0
import Derived.Test.YtgkoinnjpcpccaaXFnChecksx1
namespace Go.Proofs.Ytgkoinnjpcpccaa.XFnChecks
open Go.RowKit Go.Proofs.YtgkoinnjpcpccaaW.PrintWords Go.Proofs.YtgkoinnjpcpccaaW.PrintLast Go.Proofs.YtgkoinnjpcpccaaW.PrintMore
attribute [local go_sem] max2_int min2_int max_two min_two max_three min_three max_four min_four   -- for this text's walks alone
set_option linter.unusedVariables false
set_option linter.unusedSimpArgs false

/-! ### spec_CheckOk: function 6 -/
def spec_CheckOk.j0 : Nat → Bool → List Int → Int → Int → Int → Int → Int → Option (Bool)
  | 0, _, _, _, _, _, _, _ => none
  | k + 1, x58, x129000, x129001, x129002, x129003, x129004, x129005 => if x58 = true then (some false) else (if x129001 > 0 then (if x129004 ≥ x129001 then (if x129003 = 2 then (if x129003 = 0 then (some (x129005 == 0)) else (some true)) else (some false)) else (if x129003 = 0 then (some (x129005 == 0)) else (some true))) else (if x129003 = 0 then (some (x129005 == 0)) else (some true)))
def spec_CheckOk.f (k : Nat) (l0_0 : List Int) (a0_1 : Int) (a0_2 : Int) (a0_3 : Int) (a0_4 : Int) (a0_5 : Int) : Option (Bool) := (spec_l2key.f k l0_0).bind fun t129 => (if t129 = true then (if a0_1 < 0 then (spec_CheckOk.j0 k true l0_0 a0_1 a0_2 a0_3 a0_4 a0_5) else (if a0_1 > 1000 then (spec_CheckOk.j0 k true l0_0 a0_1 a0_2 a0_3 a0_4 a0_5) else (if a0_2 < 1 then (spec_CheckOk.j0 k true l0_0 a0_1 a0_2 a0_3 a0_4 a0_5) else (if a0_2 > 5 then (spec_CheckOk.j0 k true l0_0 a0_1 a0_2 a0_3 a0_4 a0_5) else (if a0_3 < 0 then (spec_CheckOk.j0 k true l0_0 a0_1 a0_2 a0_3 a0_4 a0_5) else (if a0_3 > 2 then (spec_CheckOk.j0 k true l0_0 a0_1 a0_2 a0_3 a0_4 a0_5) else (if a0_4 < 0 then (spec_CheckOk.j0 k true l0_0 a0_1 a0_2 a0_3 a0_4 a0_5) else (if a0_4 > 1000 then (spec_CheckOk.j0 k true l0_0 a0_1 a0_2 a0_3 a0_4 a0_5) else (if a0_5 < 0 then (spec_CheckOk.j0 k true l0_0 a0_1 a0_2 a0_3 a0_4 a0_5) else (spec_CheckOk.j0 k (decide (a0_5 > a0_2)) l0_0 a0_1 a0_2 a0_3 a0_4 a0_5)))))))))) else (spec_CheckOk.j0 k true l0_0 a0_1 a0_2 a0_3 a0_4 a0_5))
theorem spec_CheckOk.mono_l : ∀ k, (∀ y0 y1 y2 y3 y4 y5 y6, LeO (spec_CheckOk.j0 k y0 y1 y2 y3 y4 y5 y6) (spec_CheckOk.j0 (k + 1) y0 y1 y2 y3 y4 y5 y6))
 | 0 => fun _ _ _ _ _ _ _ r h => by simp [spec_CheckOk.j0] at h
 | k + 1 => by
  have ih0 := spec_CheckOk.mono_l k
  ·intro y0 y1 y2 y3 y4 y5 y6
   unfold spec_CheckOk.j0
   repeat' first
   | (with_reducible exact ih0 _ _ _ _ _ _ _)
   | (with_reducible exact spec_l2key.mono _ _)
   | (with_reducible exact LeO.refl _)
   | (with_reducible exact LeO.none _)
   | (with_reducible refine LeO.ite ?_ ?_)
   | (with_reducible refine LeO.bind ?_ (fun _ => ?_))
   | exact ih0 _ _ _ _ _ _ _
   | exact spec_l2key.mono _ _
   | exact LeO.none _
   | refine LeO.ite ?_ ?_
   | refine LeO.bind ?_ (fun _ => ?_)
theorem spec_CheckOk.mono : ∀ a0 a1 a2 a3 a4 a5 k, LeO (spec_CheckOk.f k a0 a1 a2 a3 a4 a5) (spec_CheckOk.f (k + 1) a0 a1 a2 a3 a4 a5) := by
 intro a0 a1 a2 a3 a4 a5 k
 have ih0 := spec_CheckOk.mono_l k
 unfold spec_CheckOk.f
 repeat' first
   | (with_reducible exact ih0 _ _ _ _ _ _ _)
   | (with_reducible exact spec_l2key.mono _ _)
   | (with_reducible exact LeO.refl _)
   | (with_reducible exact LeO.none _)
   | (with_reducible refine LeO.ite ?_ ?_)
   | (with_reducible refine LeO.bind ?_ (fun _ => ?_))
   | exact ih0 _ _ _ _ _ _ _
   | exact spec_l2key.mono _ _
   | exact LeO.none _
   | refine LeO.ite ?_ ?_
   | refine LeO.bind ?_ (fun _ => ?_)
set_option maxHeartbeats 8000000 in
set_option maxRecDepth 100000 in
theorem spec_CheckOk.calls (k : Nat) (A0_0 : Option Addr) (c0_0 : Nat) (l0_0 : List Int) (a0_1 : Int) (a0_2 : Int) (a0_3 : Int) (a0_4 : Int) (a0_5 : Int) (r : Bool) (w : World) (hr0_0 : Kd.C (Kd.int .u8) w A0_0 l0_0.length l0_0) (hc0_0 : l0_0.length ≤ c0_0) (h : spec_CheckOk.f k l0_0 a0_1 a0_2 a0_3 a0_4 a0_5 = some r) :
  Calls Try.prog 6 #[.agg #[.slice A0_0 l0_0.length c0_0, .int .i64 a0_1, .int .i64 a0_2, .int .i64 a0_3, .int .i64 a0_4, .int .i64 a0_5]] w fun e w' => e = .returned (.bool r) ∧ Below w.heap.size w w' := by
 have hu24 := Try.underlying24
 have HR0_0 := Aside0.mk hr0_0; have HC0_0 := Aside0.mk hc0_0; clear hr0_0 hc0_0
 have HB := Aside0.mk (Below.refl w.heap.size w)
 have H : ((spec_l2key.f k l0_0).bind fun t129 => (if t129 = true then (if a0_1 < 0 then (spec_CheckOk.j0 k true l0_0 a0_1 a0_2 a0_3 a0_4 a0_5) else (if a0_1 > 1000 then (spec_CheckOk.j0 k true l0_0 a0_1 a0_2 a0_3 a0_4 a0_5) else (if a0_2 < 1 then (spec_CheckOk.j0 k true l0_0 a0_1 a0_2 a0_3 a0_4 a0_5) else (if a0_2 > 5 then (spec_CheckOk.j0 k true l0_0 a0_1 a0_2 a0_3 a0_4 a0_5) else (if a0_3 < 0 then (spec_CheckOk.j0 k true l0_0 a0_1 a0_2 a0_3 a0_4 a0_5) else (if a0_3 > 2 then (spec_CheckOk.j0 k true l0_0 a0_1 a0_2 a0_3 a0_4 a0_5) else (if a0_4 < 0 then (spec_CheckOk.j0 k true l0_0 a0_1 a0_2 a0_3 a0_4 a0_5) else (if a0_4 > 1000 then (spec_CheckOk.j0 k true l0_0 a0_1 a0_2 a0_3 a0_4 a0_5) else (if a0_5 < 0 then (spec_CheckOk.j0 k true l0_0 a0_1 a0_2 a0_3 a0_4 a0_5) else (spec_CheckOk.j0 k (decide (a0_5 > a0_2)) l0_0 a0_1 a0_2 a0_3 a0_4 a0_5)))))))))) else (spec_CheckOk.j0 k true l0_0 a0_1 a0_2 a0_3 a0_4 a0_5))) = some r := h
 clear h; have HC2 := Aside0.mk H; clear H; go_enter Try.func6, Try.ntmps6
 go_upto_region 1 with (first | ((with_reducible refine gate_dst (N := 1) rfl ?_); refine box_event ?hg (N := 1) ?hd (cs := #[.slice A0_0 l0_0.length c0_0, .int .i64 a0_1, .int .i64 a0_2, .int .i64 a0_3, .int .i64 a0_4, .int .i64 a0_5]) (t := 24) ?hr ?_; (case hd => rfl); (case hg => rfl); (case hr => first | (go_simp; done) | (go_simp; rfl)); intro gb128 hg w3 hbox hb; have n_ := an (below_step (by exact bel0) hb) (an (hbox) (an ((by rw [hg]; exact (below_size (by exact bel0)) : w.heap.size ≤ gb128)) (an ((by rw [hg]; exact (below_size (by exact bel0)) : w.heap.size ≤ gb128)) (trivial)))); clear HB; obtain ⟨HB, BK128, GW128, GE128, -⟩ := n_; clear hb hbox hg))
 (try simp only [Act.put, List.setIfInBounds_toArray, List.set_cons_zero, List.set_cons_succ])
 go_cut [58] (fun v58 wc => ∃ (kq : Nat) (x58_1 : Bool), v58 = .bool x58_1 ∧ Aside0 (spec_CheckOk.j0 kq x58_1 l0_0 a0_1 a0_2 a0_3 a0_4 a0_5 = some r) ∧ Aside0 (kq ≤ k) ∧ Aside0 (wc.heap[gb128]? = some (.cells #[(.slice A0_0 l0_0.length c0_0), .int .i64 a0_1, .int .i64 a0_2, .int .i64 a0_3, .int .i64 a0_4, .int .i64 a0_5] 24 (0, 0))) ∧ Aside0 (Below w.heap.size w wc))
 case first =>
  have H := HC2.out; clear HC2; replace H := Option.bind_eq_some_iff.mp H; obtain ⟨t129, A40, H⟩ := H; have A4 := Aside0.mk A40; clear A40; obtain ⟨hcz5_0, hcz5_1, hcz5_2, hcz5_3, hcz5_4, hcz5_5⟩ := blkz6 BK128.out; have hfz5_0 := blkf BK128.out
  replace H := Aside0.mk H
  go_wp2_with (first | ((with_reducible refine gate_callee (f := 16) rfl ?_); refine goesL_ (some 5) rfl rfl Try.func16 (by kernel_rfl) rfl #[.slice A0_0 l0_0.length c0_0] rfl (by (try simp only [List.map_toArray, List.map_cons, List.map_nil]); first | done | rfl | (simp only [List.length_drop, List.length_take]; rfl)) ?_; (with_reducible refine (spec_l2key.calls k _ _ l0_0 t129 _ ?side1 ?side2 A4.out).mono ?_); (case side1 => repeat (first | exact (Kd.C_below HR0_0.out HB.out) | (with_reducible refine Kd.C_alloc ?_ _) | (with_reducible refine Kd.C_drewN ?_ _) | (with_reducible refine Kd.C_drew ?_))); (case side2 => exact HC0_0.out); rintro e w' ⟨rfl, ⟨nd, rfl⟩⟩; refine ⟨_, rfl, ?_⟩; refine Stop.out ?_))
  refine Stop.mk ?_
  replace H := H.out
  by_cases c6 : t129 = true
  ·subst c6; rw [if_pos rfl] at H
   by_cases c7 : a0_1 < 0
   ·rw [if_pos c7] at H; have c7b0 : decide (a0_1 < 0) = true := decide_eq_true c7; clear c7; (try simp only [c7b0])
    (first | rw [c7b0] | (simp only [i64_w, i32_w]; rw [c7b0]) | skip)
    have H' := Aside0.mk H
    clear H; obtain ⟨hcz8_0, hcz8_1, hcz8_2, hcz8_3, hcz8_4, hcz8_5⟩ := blkz6 BK128.out; have hfz8_0 := blkf BK128.out
    go_wp2
    go_meet
    case rel => exact ⟨_, (true), (by first | rfl | (simp; done) | (simp [*]; done)), H', ⟨by first | omega | exact Nat.le_refl _⟩, ⟨by exact blk_nw BK128.out⟩, ⟨by exact bel0⟩⟩
   ·rw [if_neg c7] at H; have c7b0 : decide (a0_1 < 0) = false := decide_eq_false c7; clear c7; (try simp only [c7b0])
    (first | rw [c7b0] | (simp only [i64_w, i32_w]; rw [c7b0]) | skip)
    by_cases c9 : a0_1 > 1000
    ·rw [if_pos c9] at H; have c9b0 : decide (1000 < a0_1) = true := decide_eq_true c9; clear c9; (try simp only [c9b0])
     have H' := Aside0.mk H
     clear H; obtain ⟨hcz10_0, hcz10_1, hcz10_2, hcz10_3, hcz10_4, hcz10_5⟩ := blkz6 BK128.out; have hfz10_0 := blkf BK128.out
     go_wp2
     go_meet
     case rel => exact ⟨_, (true), (by first | rfl | (simp; done) | (simp [*]; done)), H', ⟨by first | omega | exact Nat.le_refl _⟩, ⟨by exact blk_nw BK128.out⟩, ⟨by exact bel0⟩⟩
    ·rw [if_neg c9] at H; have c9b0 : decide (1000 < a0_1) = false := decide_eq_false c9; clear c9; (try simp only [c9b0])
     by_cases c11 : a0_2 < 1
     ·rw [if_pos c11] at H; have c11b0 : decide (a0_2 < 1) = true := decide_eq_true c11; clear c11; (try simp only [c11b0])
      have H' := Aside0.mk H
      clear H; obtain ⟨hcz12_0, hcz12_1, hcz12_2, hcz12_3, hcz12_4, hcz12_5⟩ := blkz6 BK128.out; have hfz12_0 := blkf BK128.out
      go_wp2
      go_meet
      case rel => exact ⟨_, (true), (by first | rfl | (simp; done) | (simp [*]; done)), H', ⟨by first | omega | exact Nat.le_refl _⟩, ⟨by exact blk_nw BK128.out⟩, ⟨by exact bel0⟩⟩
     ·rw [if_neg c11] at H; have c11b0 : decide (a0_2 < 1) = false := decide_eq_false c11; clear c11; (try simp only [c11b0])
      by_cases c13 : a0_2 > 5
      ·rw [if_pos c13] at H; have c13b0 : decide (5 < a0_2) = true := decide_eq_true c13; clear c13; (try simp only [c13b0])
       have H' := Aside0.mk H
       clear H; obtain ⟨hcz14_0, hcz14_1, hcz14_2, hcz14_3, hcz14_4, hcz14_5⟩ := blkz6 BK128.out; have hfz14_0 := blkf BK128.out
       go_wp2
       go_meet
       case rel => exact ⟨_, (true), (by first | rfl | (simp; done) | (simp [*]; done)), H', ⟨by first | omega | exact Nat.le_refl _⟩, ⟨by exact blk_nw BK128.out⟩, ⟨by exact bel0⟩⟩
      ·rw [if_neg c13] at H; have c13b0 : decide (5 < a0_2) = false := decide_eq_false c13; clear c13; (try simp only [c13b0])
       by_cases c15 : a0_3 < 0
       ·rw [if_pos c15] at H; have c15b0 : decide (a0_3 < 0) = true := decide_eq_true c15; clear c15; (try simp only [c15b0])
        have H' := Aside0.mk H
        clear H; obtain ⟨hcz16_0, hcz16_1, hcz16_2, hcz16_3, hcz16_4, hcz16_5⟩ := blkz6 BK128.out; have hfz16_0 := blkf BK128.out
        go_wp2
        go_meet
        case rel => exact ⟨_, (true), (by first | rfl | (simp; done) | (simp [*]; done)), H', ⟨by first | omega | exact Nat.le_refl _⟩, ⟨by exact blk_nw BK128.out⟩, ⟨by exact bel0⟩⟩
       ·rw [if_neg c15] at H; have c15b0 : decide (a0_3 < 0) = false := decide_eq_false c15; clear c15; (try simp only [c15b0])
        by_cases c17 : a0_3 > 2
        ·rw [if_pos c17] at H; have c17b0 : decide (2 < a0_3) = true := decide_eq_true c17; clear c17; (try simp only [c17b0])
         have H' := Aside0.mk H
         clear H; obtain ⟨hcz18_0, hcz18_1, hcz18_2, hcz18_3, hcz18_4, hcz18_5⟩ := blkz6 BK128.out; have hfz18_0 := blkf BK128.out
         go_wp2
         go_meet
         case rel => exact ⟨_, (true), (by first | rfl | (simp; done) | (simp [*]; done)), H', ⟨by first | omega | exact Nat.le_refl _⟩, ⟨by exact blk_nw BK128.out⟩, ⟨by exact bel0⟩⟩
        ·rw [if_neg c17] at H; have c17b0 : decide (2 < a0_3) = false := decide_eq_false c17; clear c17; (try simp only [c17b0])
         by_cases c19 : a0_4 < 0
         ·rw [if_pos c19] at H; have c19b0 : decide (a0_4 < 0) = true := decide_eq_true c19; clear c19; (try simp only [c19b0])
          have H' := Aside0.mk H
          clear H; obtain ⟨hcz20_0, hcz20_1, hcz20_2, hcz20_3, hcz20_4, hcz20_5⟩ := blkz6 BK128.out; have hfz20_0 := blkf BK128.out
          go_wp2
          go_meet
          case rel => exact ⟨_, (true), (by first | rfl | (simp; done) | (simp [*]; done)), H', ⟨by first | omega | exact Nat.le_refl _⟩, ⟨by exact blk_nw BK128.out⟩, ⟨by exact bel0⟩⟩
         ·rw [if_neg c19] at H; have c19b0 : decide (a0_4 < 0) = false := decide_eq_false c19; clear c19; (try simp only [c19b0])
          by_cases c21 : a0_4 > 1000
          ·rw [if_pos c21] at H; have c21b0 : decide (1000 < a0_4) = true := decide_eq_true c21; clear c21; (try simp only [c21b0])
           have H' := Aside0.mk H
           clear H; obtain ⟨hcz22_0, hcz22_1, hcz22_2, hcz22_3, hcz22_4, hcz22_5⟩ := blkz6 BK128.out; have hfz22_0 := blkf BK128.out
           go_wp2
           go_meet
           case rel => exact ⟨_, (true), (by first | rfl | (simp; done) | (simp [*]; done)), H', ⟨by first | omega | exact Nat.le_refl _⟩, ⟨by exact blk_nw BK128.out⟩, ⟨by exact bel0⟩⟩
          ·rw [if_neg c21] at H; have c21b0 : decide (1000 < a0_4) = false := decide_eq_false c21; clear c21; (try simp only [c21b0])
           by_cases c23 : a0_5 < 0
           ·rw [if_pos c23] at H; have c23b0 : decide (a0_5 < 0) = true := decide_eq_true c23; clear c23; (try simp only [c23b0])
            have H' := Aside0.mk H
            clear H; obtain ⟨hcz24_0, hcz24_1, hcz24_2, hcz24_3, hcz24_4, hcz24_5⟩ := blkz6 BK128.out; have hfz24_0 := blkf BK128.out
            go_wp2
            go_meet
            case rel => exact ⟨_, (true), (by first | rfl | (simp; done) | (simp [*]; done)), H', ⟨by first | omega | exact Nat.le_refl _⟩, ⟨by exact blk_nw BK128.out⟩, ⟨by exact bel0⟩⟩
           ·rw [if_neg c23] at H; have c23b0 : decide (a0_5 < 0) = false := decide_eq_false c23; clear c23; (try simp only [c23b0])
            have H' := Aside0.mk H
            clear H; obtain ⟨hcz25_0, hcz25_1, hcz25_2, hcz25_3, hcz25_4, hcz25_5⟩ := blkz6 BK128.out; have hfz25_0 := blkf BK128.out
            go_wp2
            go_meet
            case rel => exact ⟨_, (decide (a0_5 > a0_2)), (by first | rfl | (simp; done) | (simp [*]; done)), H', ⟨by first | omega | exact Nat.le_refl _⟩, ⟨by exact blk_nw BK128.out⟩, ⟨by exact bel0⟩⟩
  ·replace c6 := Bool.eq_false_iff.mpr c6
   subst c6
   rw [if_neg (show ¬ (false = true) by decide)] at H
   have H' := Aside0.mk H
   clear H
   go_wp2
   go_meet
   case rel => exact ⟨_, (true), (by first | rfl | (simp; done) | (simp [*]; done)), H', ⟨by first | omega | exact Nat.le_refl _⟩, ⟨by exact blk_nw BK128.out⟩, ⟨by exact bel0⟩⟩
 case rest =>
  clear HC2; try clear c1; try clear c2; try clear p2; try clear c6; try clear c7; try clear c7b0; try clear c9; try clear c9b0; try clear c11; try clear c11b0; try clear c13; try clear c13b0; try clear c15; try clear c15b0; try clear c16; try clear c17; try clear c17b0; try clear c19; try clear c19b0; try clear c21; try clear c21b0; try clear c23; try clear c23b0; try clear hcz10_0; try clear hcz10_1; try clear hcz10_2; try clear hcz10_3; try clear hcz10_4; try clear hcz10_5; try clear hcz12_0; try clear hcz12_1; try clear hcz12_2; try clear hcz12_3; try clear hcz12_4; try clear hcz12_5; try clear hcz14_0; try clear hcz14_1; try clear hcz14_2; try clear hcz14_3; try clear hcz14_4; try clear hcz14_5; try clear hcz16_0; try clear hcz16_1; try clear hcz16_2; try clear hcz16_3; try clear hcz16_4; try clear hcz16_5; try clear hcz18_0; try clear hcz18_1; try clear hcz18_2; try clear hcz18_3; try clear hcz18_4; try clear hcz18_5; try clear hcz20_0; try clear hcz20_1; try clear hcz20_2; try clear hcz20_3; try clear hcz20_4; try clear hcz20_5; try clear hcz22_0; try clear hcz22_1; try clear hcz22_2; try clear hcz22_3; try clear hcz22_4; try clear hcz22_5; try clear hcz24_0; try clear hcz24_1; try clear hcz24_2; try clear hcz24_3; try clear hcz24_4; try clear hcz24_5; try clear hcz25_0; try clear hcz25_1; try clear hcz25_2; try clear hcz25_3; try clear hcz25_4; try clear hcz25_5; try clear hcz5_0; try clear hcz5_1; try clear hcz5_2; try clear hcz5_3; try clear hcz5_4; try clear hcz5_5; try clear hcz8_0; try clear hcz8_1; try clear hcz8_2; try clear hcz8_3; try clear hcz8_4; try clear hcz8_5; try clear hfz10_0; try clear hfz10_1; try clear hfz10_2; try clear hfz10_3; try clear hfz10_4; try clear hfz10_5; try clear hfz12_0; try clear hfz12_1; try clear hfz12_2; try clear hfz12_3; try clear hfz12_4; try clear hfz12_5; try clear hfz14_0; try clear hfz14_1; try clear hfz14_2; try clear hfz14_3; try clear hfz14_4; try clear hfz14_5; try clear hfz16_0; try clear hfz16_1; try clear hfz16_2; try clear hfz16_3; try clear hfz16_4; try clear hfz16_5; try clear hfz18_0; try clear hfz18_1; try clear hfz18_2; try clear hfz18_3; try clear hfz18_4; try clear hfz18_5; try clear hfz20_0; try clear hfz20_1; try clear hfz20_2; try clear hfz20_3; try clear hfz20_4; try clear hfz20_5; try clear hfz22_0; try clear hfz22_1; try clear hfz22_2; try clear hfz22_3; try clear hfz22_4; try clear hfz22_5; try clear hfz24_0; try clear hfz24_1; try clear hfz24_2; try clear hfz24_3; try clear hfz24_4; try clear hfz24_5; try clear hfz25_0; try clear hfz25_1; try clear hfz25_2; try clear hfz25_3; try clear hfz25_4; try clear hfz25_5; try clear hfz5_0; try clear hfz5_1; try clear hfz5_2; try clear hfz5_3; try clear hfz5_4; try clear hfz5_5; try clear hfz8_0; try clear hfz8_1; try clear hfz8_2; try clear hfz8_3; try clear hfz8_4; try clear hfz8_5
  obtain ⟨kq, x58_1, rfl, HA, HJ1, BK128, HB⟩ := hcut
  cases kq with
  | zero => exact absurd HA.out (by simp [spec_CheckOk.j0])
  | succ kj1 =>
   have H := HA.out; clear HA
   simp only [spec_CheckOk.j0] at H
   by_cases c26 : x58_1 = true
   ·subst c26; rw [if_pos rfl] at H
    obtain rfl := Option.some.inj H
    go_wp2
    go_ret
    exact ⟨by first | rfl | (simp [errW_none, errW_some] <;> rfl) | (simp [*, errW_none, errW_some] <;> rfl), by exact bel0⟩
   ·replace c26 := Bool.eq_false_iff.mpr c26
    subst c26
    rw [if_neg (show ¬ (false = true) by decide)] at H
    by_cases c27 : a0_1 > 0
    ·rw [if_pos c27] at H; have c27b0 : decide (0 < a0_1) = true := decide_eq_true c27; clear c27; (try simp only [c27b0])
     by_cases c28 : a0_4 ≥ a0_1
     ·rw [if_pos c28] at H; have c28b0 : decide (a0_1 ≤ a0_4) = true := decide_eq_true c28; clear c28; (try simp only [c28b0])
      by_cases c29 : a0_3 = 2
      ·rw [if_pos c29] at H; have c29b0 : (a0_3 == 2) = true := beq_iff_eq.mpr c29; have c29b1 : (a0_3 != 2) = false := bne_eq_false_iff_eq.mpr c29; clear c29
       by_cases c30 : a0_3 = 0
       ·rw [if_pos c30] at H; have c30b0 : (a0_3 == 0) = true := beq_iff_eq.mpr c30; have c30b1 : (a0_3 != 0) = false := bne_eq_false_iff_eq.mpr c30; clear c30
        obtain rfl := Option.some.inj H
        obtain ⟨hcz31_0, hcz31_1, hcz31_2, hcz31_3, hcz31_4, hcz31_5⟩ := blkz6 BK128.out; have hfz31_0 := blkf BK128.out
        go_wp2
        go_ret
        exact ⟨by first | rfl | (simp [errW_none, errW_some] <;> rfl) | (simp [*, errW_none, errW_some] <;> rfl), by exact bel0⟩
       ·rw [if_neg c30] at H; have c30b0 : (a0_3 == 0) = false := beq_eq_false_iff_ne.mpr c30; have c30b1 : (a0_3 != 0) = true := bne_iff_ne.mpr c30
        obtain rfl := Option.some.inj H
        obtain ⟨hcz32_0, hcz32_1, hcz32_2, hcz32_3, hcz32_4, hcz32_5⟩ := blkz6 BK128.out; have hfz32_0 := blkf BK128.out
        go_wp2
        go_ret
        exact ⟨by first | rfl | (simp [errW_none, errW_some] <;> rfl) | (simp [*, errW_none, errW_some] <;> rfl), by exact bel0⟩
      ·rw [if_neg c29] at H; have c29b0 : (a0_3 == 2) = false := beq_eq_false_iff_ne.mpr c29; have c29b1 : (a0_3 != 2) = true := bne_iff_ne.mpr c29
       obtain rfl := Option.some.inj H
       obtain ⟨hcz33_0, hcz33_1, hcz33_2, hcz33_3, hcz33_4, hcz33_5⟩ := blkz6 BK128.out; have hfz33_0 := blkf BK128.out
       go_wp2
       go_ret
       exact ⟨by first | rfl | (simp [errW_none, errW_some] <;> rfl) | (simp [*, errW_none, errW_some] <;> rfl), by exact bel0⟩
     ·rw [if_neg c28] at H; have c28b0 : decide (a0_1 ≤ a0_4) = false := decide_eq_false c28; clear c28; (try simp only [c28b0])
      by_cases c34 : a0_3 = 0
      ·rw [if_pos c34] at H; have c34b0 : (a0_3 == 0) = true := beq_iff_eq.mpr c34; have c34b1 : (a0_3 != 0) = false := bne_eq_false_iff_eq.mpr c34; clear c34
       obtain rfl := Option.some.inj H
       obtain ⟨hcz35_0, hcz35_1, hcz35_2, hcz35_3, hcz35_4, hcz35_5⟩ := blkz6 BK128.out; have hfz35_0 := blkf BK128.out
       go_wp2
       go_ret
       exact ⟨by first | rfl | (simp [errW_none, errW_some] <;> rfl) | (simp [*, errW_none, errW_some] <;> rfl), by exact bel0⟩
      ·rw [if_neg c34] at H; have c34b0 : (a0_3 == 0) = false := beq_eq_false_iff_ne.mpr c34; have c34b1 : (a0_3 != 0) = true := bne_iff_ne.mpr c34
       obtain rfl := Option.some.inj H
       obtain ⟨hcz36_0, hcz36_1, hcz36_2, hcz36_3, hcz36_4, hcz36_5⟩ := blkz6 BK128.out; have hfz36_0 := blkf BK128.out
       go_wp2
       go_ret
       exact ⟨by first | rfl | (simp [errW_none, errW_some] <;> rfl) | (simp [*, errW_none, errW_some] <;> rfl), by exact bel0⟩
    ·rw [if_neg c27] at H; have c27b0 : decide (0 < a0_1) = false := decide_eq_false c27; clear c27; (try simp only [c27b0])
     by_cases c37 : a0_3 = 0
     ·rw [if_pos c37] at H; have c37b0 : (a0_3 == 0) = true := beq_iff_eq.mpr c37; have c37b1 : (a0_3 != 0) = false := bne_eq_false_iff_eq.mpr c37; clear c37
      obtain rfl := Option.some.inj H
      obtain ⟨hcz38_0, hcz38_1, hcz38_2, hcz38_3, hcz38_4, hcz38_5⟩ := blkz6 BK128.out; have hfz38_0 := blkf BK128.out
      go_wp2
      go_ret
      exact ⟨by first | rfl | (simp [errW_none, errW_some] <;> rfl) | (simp [*, errW_none, errW_some] <;> rfl), by exact bel0⟩
     ·rw [if_neg c37] at H; have c37b0 : (a0_3 == 0) = false := beq_eq_false_iff_ne.mpr c37; have c37b1 : (a0_3 != 0) = true := bne_iff_ne.mpr c37
      obtain rfl := Option.some.inj H
      obtain ⟨hcz39_0, hcz39_1, hcz39_2, hcz39_3, hcz39_4, hcz39_5⟩ := blkz6 BK128.out; have hfz39_0 := blkf BK128.out
      go_wp2
      go_ret
      exact ⟨by first | rfl | (simp [errW_none, errW_some] <;> rfl) | (simp [*, errW_none, errW_some] <;> rfl), by exact bel0⟩

/-! ### spec_CheckNew: function 25 -/
def spec_CheckNew.f (k : Nat) (l0 : List Int) (a1 : Int) (a2 : Int) : Option (List Int × Int × Int × Int × Int × Int × Bool) := (some (([] : List Int) : List Int)).bind fun y131 => (if y131.length + l0.length < 140737488355328 then ((some (y131 ++ l0 : List Int)).bind fun y134 => ((spec_CheckOk.f k y134 a1 a2 2 0 0).bind fun t138 => (if t138 = true then (some (y134, a1, a2, 2, 0, 0, true)) else (some (([] : List Int), 0, 0, 0, 0, 0, false))))) else (none))
theorem spec_CheckNew.mono : ∀ a0 a1 a2 k, LeO (spec_CheckNew.f k a0 a1 a2) (spec_CheckNew.f (k + 1) a0 a1 a2) := by
 intro a0 a1 a2 k
 unfold spec_CheckNew.f
 repeat' first
   | (with_reducible exact spec_CheckOk.mono _ _ _ _ _ _ _)
   | (with_reducible exact LeO.refl _)
   | (with_reducible exact LeO.none _)
   | (with_reducible refine LeO.ite ?_ ?_)
   | (with_reducible refine LeO.bind ?_ (fun _ => ?_))
   | exact spec_CheckOk.mono _ _ _ _ _ _ _
   | exact LeO.none _
   | refine LeO.ite ?_ ?_
   | refine LeO.bind ?_ (fun _ => ?_)
set_option maxHeartbeats 8000000 in
set_option maxRecDepth 100000 in
theorem spec_CheckNew.calls (k : Nat) (A0 : Option Addr) (c0 : Nat) (l0 : List Int) (a1 : Int) (a2 : Int) (r1 : List Int) (r2 : Int) (r3 : Int) (r4 : Int) (r5 : Int) (r6 : Int) (r7 : Bool) (w : World) (hr0 : Kd.C (Kd.int .u8) w A0 l0.length l0) (hc0 : l0.length ≤ c0) (h : spec_CheckNew.f k l0 a1 a2 = some (r1, r2, r3, r4, r5, r6, r7)) :
  Calls Try.prog 25 #[.slice A0 l0.length c0, .int .i64 a1, .int .i64 a2] w fun e w' => ∃ v0_ : Value, e = .returned (.tuple #[.agg #[v0_, .int .i64 r2, .int .i64 r3, .int .i64 r4, .int .i64 r5, .int .i64 r6], .bool r7]) ∧ Kd.R (Kd.int .u8) 5 w' w.heap.size (fun _ => True) v0_ r1 ∧ Below w.heap.size w w' := by
 have hu24 := Try.underlying24
 have HR0 := Aside0.mk hr0; have HC0 := Aside0.mk hc0; clear hr0 hc0
 have HB := Aside0.mk (Below.refl w.heap.size w)
 have H : ((some (([] : List Int) : List Int)).bind fun y131 => (if y131.length + l0.length < 140737488355328 then ((some (y131 ++ l0 : List Int)).bind fun y134 => ((spec_CheckOk.f k y134 a1 a2 2 0 0).bind fun t138 => (if t138 = true then (some (y134, a1, a2, 2, 0, 0, true)) else (some (([] : List Int), 0, 0, 0, 0, 0, false))))) else (none))) = some (r1, r2, r3, r4, r5, r6, r7) := h
 clear h
 obtain ⟨y131, hy131⟩ : ∃ y_ : List Int, y_ = (([] : List Int)) := ⟨_, rfl⟩
 replace H : (if y131.length + l0.length < 140737488355328 then ((some (y131 ++ l0 : List Int)).bind fun y134 => ((spec_CheckOk.f k y134 a1 a2 2 0 0).bind fun t138 => (if t138 = true then (some (y134, a1, a2, 2, 0, 0, true)) else (some (([] : List Int), 0, 0, 0, 0, 0, false))))) else (none)) = some (r1, r2, r3, r4, r5, r6, r7) := by first | (rw [hy131]; with_reducible exact H) | (have H2_ := (Option.bind_some _ _).symm.trans H; rw [hy131]; with_reducible exact H2_) | (have H2_ := (Option.bind_some _ _).symm.trans H; with_reducible exact H2_) | with_reducible exact H | (rw [hy131]; exact H) | exact H
 have Ny131 := Aside0.mk hy131; clear hy131; go_enter Try.func25, Try.ntmps25
 replace H := Aside0.mk H
 go_wp2_with (first | ((with_reducible refine gate_dst (N := 6) rfl ?_); refine box_event ?hg (N := 6) ?hd (cs := #[.slice none 0 0, .int .i64 0, .int .i64 0, .int .i64 0, .int .i64 0, .int .i64 0]) (t := 24) ?hr ?_; (case hd => rfl); (case hg => rfl); (case hr => first | (go_simp; done) | (go_simp; rfl)); intro gb130 hg w4 hbox hb; have n_ := an (below_step (by exact bel0) hb) (an (hbox) (an ((by rw [hg]; exact (below_size (by exact bel0)) : w.heap.size ≤ gb130)) (an ((by rw [hg]; exact (below_size (by exact bel0)) : w.heap.size ≤ gb130)) (trivial)))); clear HB; obtain ⟨HB, BK130, GW130, GE130, -⟩ := n_; clear hb hbox hg) | ((with_reducible refine gate_dst (N := 9) rfl ?_); refine Kd.R_lit (Kd.int .u8) _ 5 ?hg (N := 9) ?hd (xs := ([] : List Int)) (inner := []) (ok := fun _ => True) (okp := fun _ => True) ?hr ?hp (fun _ hk => hk) trivial (Below.refl _ _) (Nat.le_refl _) (by simp) ?_; (case hd => rfl); (case hg => rfl); (case hr => first | (go_simp; done) | (go_simp; rfl)); (case hp => exact (Reps.none _ _)); intro v132 w5 ho6 hb hg_ hnew_; clear hg_ hnew_; (first | rw [← Ny131.out] at ho6 | (simp only [Int.reduceToNat] at ho6; rw [← Ny131.out] at ho6)); have n_ := an (Kd.R_lower ho6 (below_size (by exact bel0))) (an (blk_below (blk_nw BK130.out) hb) (an (below_step (by exact bel0) hb) (trivial))); clear BK130 HB; obtain ⟨HO133, BK130, HB, -⟩ := n_; clear hb ho6; refine Stop.out ?_))
 refine Stop.mk ?_
 replace H := H.out
 by_cases c7 : y131.length + l0.length < 140737488355328
 ·rw [if_pos c7] at H; have LMc7 := Aside0.mk c7; clear c7
  obtain ⟨y134, hy134⟩ : ∃ y_ : List Int, y_ = (y131 ++ l0) := ⟨_, rfl⟩
  replace H : ((spec_CheckOk.f k y134 a1 a2 2 0 0).bind fun t138 => (if t138 = true then (some (y134, a1, a2, 2, 0, 0, true)) else (some (([] : List Int), 0, 0, 0, 0, 0, false)))) = some (r1, r2, r3, r4, r5, r6, r7) := by first | (rw [hy134]; with_reducible exact H) | (have H2_ := (Option.bind_some _ _).symm.trans H; rw [hy134]; with_reducible exact H2_) | (have H2_ := (Option.bind_some _ _).symm.trans H; with_reducible exact H2_) | with_reducible exact H | (rw [hy134]; exact H) | exact H
  have Ny134 := Aside0.mk hy134; clear hy134; replace H := Option.bind_eq_some_iff.mp H; obtain ⟨t138, A80, H⟩ := H; have A8 := Aside0.mk A80; clear A80
  replace H := Aside0.mk H
  go_wp2_with (first | ((with_reducible refine gate_builtin (b := .append) (xs := #[.tmp 9, .tmp 10]) rfl ?_); at_builtin; refine Kd.R_append_rows (Kd.int .u8) (w0 := w) w.heap.size rfl (.tmp 9) (.tmp 10) 22 5 (.int .u8 0) 1 rfl Try.underlying22 info5 rfl (by decide) (by omega) v132 y131 l0 _ _ _ (fun _ => True) (fun _ => False) rfl rfl ?aO ?aR (fun _ _ h => h) (fun _ h => h.elim) ?aF ?aB ?aS ?aL ?_; (case aR => repeat (first | exact (Kd.C_below HR0.out HB.out) | (with_reducible refine Kd.C_alloc ?_ _) | (with_reducible refine Kd.C_drewN ?_ _) | (with_reducible refine Kd.C_drew ?_))); (case aB => exact (by exact bel0)); (case aF => exact (fun _ _ => trivial)); (case aO => exact (by exact Kd.R_nw HO133.out)); (case aS => exact (below_size (by exact bel0))); (case aL => have := LMc7.out; omega); intro v135 w9 ho hb hg hat; rw [← Ny134.out] at ho; have n_ := an (blk_grown (blk_nw BK130.out) hg (Kd.R_ne HO133.out BK130.out (by decide))) (an (hb) (an (ho) (trivial))); clear BK130 HB HO133; obtain ⟨BK130, HB, HO136, -⟩ := n_; clear ho hb hg hat; obtain ⟨Ao10, co10, eo10⟩ := Kd.R_slice HO136.out; subst eo10) | ((with_reducible refine gate_dst (N := 8) rfl ?_); refine box_event ?hg (N := 8) ?hd (cs := #[.slice none 0 0, .int .i64 0, .int .i64 0, .int .i64 0, .int .i64 0, .int .i64 0]) (t := 24) ?hr ?_; (case hd => rfl); (case hg => rfl); (case hr => first | (go_simp; done) | (go_simp; rfl)); intro gb137 hg w11 hbox hb; have n_ := an (Kd.R_below (by exact Kd.R_nw HO136.out) hb) (an (blk_below (blk_nw BK130.out) hb) (an (below_step (by exact bel0) hb) (an (hbox) (an ((by rw [hg]; exact (below_size (by exact bel0)) : w.heap.size ≤ gb137)) (an ((by rw [hg]; exact (below_size (by exact bel0)) : w.heap.size ≤ gb137)) (an ((by rw [hg]; exact Nat.ne_of_lt (blk_lt (blk_nw BK130.out)) : gb130 ≠ gb137)) (an ((by rw [hg]; exact Nat.ne_of_gt (blk_lt (blk_nw BK130.out)) : gb137 ≠ gb130)) (trivial)))))))); clear HO136 BK130 HB; obtain ⟨HO136, BK130, HB, BK137, GW137, GE137, NB130_137, NB137_130, -⟩ := n_; clear hb hbox hg; have hnb12 := NB137_130.out; have hnc12 := NB130_137.out; obtain ⟨hcz13_0, hcz13_1, hcz13_2, hcz13_3, hcz13_4, hcz13_5⟩ := blkz6 BK137.out; have hfz13_0 := blkf BK137.out) | ((with_reducible refine gate_callee (f := 6) rfl ?_); refine goesL_ (some 16) rfl rfl Try.func6 (by kernel_rfl) rfl #[.agg #[.slice Ao10 y134.length co10, .int .i64 a1, .int .i64 a2, .int .i64 2, .int .i64 0, .int .i64 0]] rfl (by (try simp only [List.map_toArray, List.map_cons, List.map_nil]); first | done | rfl | (simp only [List.length_drop, List.length_take]; rfl)) ?_; (with_reducible refine (spec_CheckOk.calls k _ _ y134 a1 a2 2 0 0 t138 _ ?side1 ?side2 A8.out).mono ?_); (case side1 => refine (Kd.R_reads' (e := 5) (base := w.heap.size) (ok := fun k_ => True) (n := y134.length) (c := co10) ?_).2.2; exact (by exact (Kd.R_farN HO136.out BK137.out))); (case side2 => exact (Kd.R_reads' HO136.out).2.1); rintro e w14 ⟨rfl, hb⟩; refine ⟨_, rfl, ?_⟩; have n_ := an (Kd.R_below (by exact (Kd.R_farN HO136.out BK137.out)) hb) (an (blk_below (blk_kb BK130.out NB130_137.out) hb) (an (blk_below (g := gb137) (o := .cells #[.slice Ao10 y134.length co10, .int .i64 a1, .int .i64 a2, .int .i64 2, .int .i64 0, .int .i64 0] 24 (0, 0)) (by (with_reducible repeat (first | refine blk_drewN ?_ _ | refine blk_drew ?_ | refine blk_alloc ?_ _)); exact blk_fill6 BK137.out) hb) (an (below_step (by exact bel0) hb) (trivial)))); clear HO136 BK130 BK137 HB; obtain ⟨HO136, BK130, BK137, HB, -⟩ := n_; (try clear hb); (try clear hb2); (try clear hk); (try clear hi); refine Stop.out ?_))
  refine Stop.mk ?_
  replace H := H.out
  by_cases c15 : t138 = true
  ·subst c15; rw [if_pos rfl] at H; simp only [Option.some.injEq, Prod.mk.injEq] at H; obtain ⟨rfl, rfl, rfl, rfl, rfl, rfl, rfl⟩ := H; have hnb16 := NB137_130.out; have hnc16 := NB130_137.out; obtain ⟨hcz17_0, hcz17_1, hcz17_2, hcz17_3, hcz17_4, hcz17_5⟩ := blkz6 BK137.out; have hfz17_0 := blkf BK137.out; obtain ⟨hcz18_0, hcz18_1, hcz18_2, hcz18_3, hcz18_4, hcz18_5⟩ := blkz6 BK130.out; have hfz18_0 := blkf BK130.out
   go_wp2
   refine bodyPost_ret (results_ct rfl _ _ gb130 24 #[.slice Ao10 y134.length co10, .int .i64 a1, .int .i64 a2, .int .i64 2, .int .i64 0, .int .i64 0] (0, 0) _ rfl (by (with_reducible repeat (first | refine blk_drewN ?_ _ | refine blk_drew ?_ | refine blk_alloc ?_ _)); exact blk_fill6 BK130.out) Try.underlying24 rfl (by kernel_rfl)) rfl ?_
   exact ⟨_, by first | rfl | (simp [errW_none, errW_some] <;> rfl) | (simp [*, errW_none, errW_some] <;> rfl), by exact (Kd.R_farN HO136.out BK130.out), by exact bel0⟩
  ·replace c15 := Bool.eq_false_iff.mpr c15
   subst c15
   rw [if_neg (show ¬ (false = true) by decide)] at H
   simp only [Option.some.injEq, Prod.mk.injEq] at H; obtain ⟨rfl, rfl, rfl, rfl, rfl, rfl, rfl⟩ := H; have hnb19 := NB130_137.out; have hnc19 := NB137_130.out; obtain ⟨hcz20_0, hcz20_1, hcz20_2, hcz20_3, hcz20_4, hcz20_5⟩ := blkz6 BK130.out; have hfz20_0 := blkf BK130.out
   go_wp2
   refine bodyPost_ret (results_ct rfl _ _ gb130 24 #[.slice none 0 0, .int .i64 0, .int .i64 0, .int .i64 0, .int .i64 0, .int .i64 0] (0, 0) _ rfl (by (with_reducible repeat (first | refine blk_drewN ?_ _ | refine blk_drew ?_ | refine blk_alloc ?_ _)); exact blk_fill6 BK130.out) Try.underlying24 rfl (by kernel_rfl)) rfl ?_
   exact ⟨_, by first | rfl | (simp [errW_none, errW_some] <;> rfl) | (simp [*, errW_none, errW_some] <;> rfl), by first | exact Kd.R_nil _ _ _ _ _ | exact Kd.N_nil _ _ _ _ _ | exact Kd.V_nil _ _ _ _ _ | exact Kd.Q_nil _ _ _ _ _ | exact Kd.S_nil _ _ _ _ _, by exact bel0⟩
 ·rw [if_neg c7] at H
  exact absurd H (by simp)

/-! ### spec_l2drawKey: function 26 -/
def spec_l2drawKey.f (s0_0 : List Int) (s0_1 : Int) (s0_2 : Int) : Option (List Int × Int × Int) := (some (([(⟨#[97]⟩ : ByteArray), (⟨#[98]⟩ : ByteArray), (⟨#[99]⟩ : ByteArray), (⟨#[97, 47, 98]⟩ : ByteArray), (⟨#[100]⟩ : ByteArray)] : List ByteArray) : List ByteArray)).bind fun y139 => ((spec_l1Below.f s0_0 s0_1 s0_2 5).bind fun bt142 => (if 0 ≤ bt142.1 then (if bt142.1 < (y139.length : Int) then (if (rdOf ByteArray.empty y139 bt142.1).size < 140737488355328 then (some ((bytesOf (rdOf ByteArray.empty y139 bt142.1)), bt142.2.1, bt142.2.2)) else (none)) else (none)) else (none)))
set_option maxHeartbeats 8000000 in
set_option maxRecDepth 100000 in
theorem spec_l2drawKey.calls (g : Nat) (s0_0 : List Int) (s0_1 : Int) (s0_2 : Int) (r1 : List Int) (r2 : Int) (r3 : Int) (w0 w : World) (hI : IsS46 w0 w g s0_0 s0_1 s0_2) (hB : Below w0.heap.size w0 w) (h : spec_l2drawKey.f s0_0 s0_1 s0_2 = some (r1, r2, r3)) :
  Calls Try.prog 26 #[.pointer (some ⟨g, 0, none⟩)] w fun e w' => ∃ v0_ : Value, e = .returned (v0_) ∧ Kd.R (Kd.int .u8) 5 w' w.heap.size (fun _ => True) v0_ r1 ∧ IsS46 w0 w' g s0_0 r2 r3 ∧ Below w0.heap.size w0 w' ∧ KeepBut w w' g none := by
 have HI0 := Aside0.mk hI
 have HK := Aside0.mk (KeepBut.refl w g none)
 have HL := Aside0.mk hB.size
 clear hI
 have HW0 := Aside0.mk hB.size
 have HB := Aside0.mk hB; clear hB
 have H : ((some (([(⟨#[97]⟩ : ByteArray), (⟨#[98]⟩ : ByteArray), (⟨#[99]⟩ : ByteArray), (⟨#[97, 47, 98]⟩ : ByteArray), (⟨#[100]⟩ : ByteArray)] : List ByteArray) : List ByteArray)).bind fun y139 => ((spec_l1Below.f s0_0 s0_1 s0_2 5).bind fun bt142 => (if 0 ≤ bt142.1 then (if bt142.1 < (y139.length : Int) then (if (rdOf ByteArray.empty y139 bt142.1).size < 140737488355328 then (some ((bytesOf (rdOf ByteArray.empty y139 bt142.1)), bt142.2.1, bt142.2.2)) else (none)) else (none)) else (none)))) = some (r1, r2, r3) := h
 clear h
 obtain ⟨y139, hy139⟩ : ∃ y_ : List ByteArray, y_ = (([(⟨#[97]⟩ : ByteArray), (⟨#[98]⟩ : ByteArray), (⟨#[99]⟩ : ByteArray), (⟨#[97, 47, 98]⟩ : ByteArray), (⟨#[100]⟩ : ByteArray)] : List ByteArray)) := ⟨_, rfl⟩
 replace H : ((spec_l1Below.f s0_0 s0_1 s0_2 5).bind fun bt142 => (if 0 ≤ bt142.1 then (if bt142.1 < (y139.length : Int) then (if (rdOf ByteArray.empty y139 bt142.1).size < 140737488355328 then (some ((bytesOf (rdOf ByteArray.empty y139 bt142.1)), bt142.2.1, bt142.2.2)) else (none)) else (none)) else (none))) = some (r1, r2, r3) := by first | (rw [hy139]; with_reducible exact H) | (have H2_ := (Option.bind_some _ _).symm.trans H; rw [hy139]; with_reducible exact H2_) | (have H2_ := (Option.bind_some _ _).symm.trans H; with_reducible exact H2_) | with_reducible exact H | (rw [hy139]; exact H) | exact H
 have Ny139 := Aside0.mk hy139; clear hy139; replace H := Option.bind_eq_some_iff.mp H
 obtain ⟨⟨t142, t143, t144⟩, A20, H⟩ := H
 replace H : (if 0 ≤ t142 then (if t142 < (y139.length : Int) then (if (rdOf ByteArray.empty y139 t142).size < 140737488355328 then (some ((bytesOf (rdOf ByteArray.empty y139 t142)), t143, t144)) else (none)) else (none)) else (none)) = some (r1, r2, r3) := H
 have A2 := Aside0.mk A20; clear A20; go_enter Try.func26, Try.ntmps26
 replace H := Aside0.mk H
 go_wp2_with (first | ((with_reducible refine gate_dst (N := 3) rfl ?_); refine Kd.R_lit Kd.string _ 9 ?hg (N := 3) ?hd (xs := ([(⟨#[97]⟩ : ByteArray), (⟨#[98]⟩ : ByteArray), (⟨#[99]⟩ : ByteArray), (⟨#[97, 47, 98]⟩ : ByteArray), (⟨#[100]⟩ : ByteArray)] : List ByteArray)) (inner := [.string (⟨#[97]⟩ : ByteArray), .string (⟨#[98]⟩ : ByteArray), .string (⟨#[99]⟩ : ByteArray), .string (⟨#[97, 47, 98]⟩ : ByteArray), .string (⟨#[100]⟩ : ByteArray)]) (ok := fun _ => True) (okp := fun _ => True) ?hr ?hp (fun _ hk => hk) trivial (Below.refl _ _) (Nat.le_refl _) (by simp) ?_; (case hd => rfl); (case hg => rfl); (case hr => first | (go_simp; done) | (go_simp; rfl)); (case hp => exact (Reps.one (show Kd.M Kd.string _ _ _ (⟨#[97]⟩ : ByteArray) [.string (⟨#[97]⟩ : ByteArray)] from rfl) (Reps.one (show Kd.M Kd.string _ _ _ (⟨#[98]⟩ : ByteArray) [.string (⟨#[98]⟩ : ByteArray)] from rfl) (Reps.one (show Kd.M Kd.string _ _ _ (⟨#[99]⟩ : ByteArray) [.string (⟨#[99]⟩ : ByteArray)] from rfl) (Reps.one (show Kd.M Kd.string _ _ _ (⟨#[97, 47, 98]⟩ : ByteArray) [.string (⟨#[97, 47, 98]⟩ : ByteArray)] from rfl) (Reps.one (show Kd.M Kd.string _ _ _ (⟨#[100]⟩ : ByteArray) [.string (⟨#[100]⟩ : ByteArray)] from rfl) (Reps.none _ _))))))); intro v140 w3 ho4 hb hg_ hnew_; clear hg_ hnew_; (first | rw [← Ny139.out] at ho4 | (simp only [Int.reduceToNat] at ho4; rw [← Ny139.out] at ho4)); have n_ := an (Kd.R_lower ho4 (keep_size (w := w) (g := g) (row := none) (by repeat (first | (with_reducible first | exact HK.out | apply KeepBut.set_ | apply keep_drewN | apply keep_drew | apply keep_alloc) | exact HK.out)))) (an (IsS46.below (by repeat (first | (with_reducible first | exact HI0.out | apply IsS46.alloc | apply IsS46.drewN | apply IsS46.drew | apply IsS46.set_1 | apply IsS46.set_2) | exact HI0.out)) hb) (an (KeepBut.trans (by repeat (first | (with_reducible first | exact HK.out | apply KeepBut.set_ | apply keep_drewN | apply keep_drew | apply keep_alloc) | exact HK.out)) (KeepBut.of_below hb g none) (.inl rfl)) (an (below_step (by repeat (first | (with_reducible first | exact HB.out | apply below_alloc | apply pw_below_drewN | apply below_drew1 | refine below_set ?_ (IsS46.ge HI0.out)) | exact HB.out)) hb) (trivial)))); clear HI0 HK HB; obtain ⟨HO141, HI0, HK, HB, -⟩ := n_; clear hb ho4) | ((with_reducible refine gate_callee (f := 23) rfl ?_); refine goesL_ (some 5) rfl rfl Try.func23 (by kernel_rfl) rfl #[.pointer (some ⟨g, 0, none⟩), .int .i64 5] rfl (by (try simp only [List.map_toArray, List.map_cons, List.map_nil]); first | done | rfl | (simp only [List.length_drop, List.length_take]; rfl)) ?_; (with_reducible refine (spec_l1Below.calls g s0_0 s0_1 s0_2 5 t142 t143 t144 w0 _ ?side1 ?side2 A2.out).mono ?_); (case side1 => repeat (first | (with_reducible first | exact HI0.out | apply IsS46.alloc | apply IsS46.drewN | apply IsS46.drew | apply IsS46.set_1 | apply IsS46.set_2) | exact HI0.out)); (case side2 => repeat (first | (with_reducible first | exact HB.out | apply below_alloc | apply pw_below_drewN | apply below_drew1 | refine below_set ?_ (IsS46.ge HI0.out)) | exact HB.out)); rintro e w5 ⟨rfl, hi, hb, hk⟩; refine ⟨_, rfl, ?_⟩; have n_ := an (Kd.R_mono (Kd.R_keep (IsS46.apart (show IsS46 w0 _ g s0_0 s0_1 s0_2 from by repeat (first | (with_reducible first | exact HI0.out | apply IsS46.alloc | apply IsS46.drewN | apply IsS46.drew | apply IsS46.set_1 | apply IsS46.set_2) | exact HI0.out)) (by exact Kd.R_nw HO141.out) (by decide)) hk (fun _ h => h.2)) (fun _ h => h.1)) (an (KeepBut.trans (by repeat (first | (with_reducible first | exact HK.out | apply KeepBut.set_ | apply keep_drewN | apply keep_drew | apply keep_alloc) | exact HK.out)) hk (.inl rfl)) (an (hb) (an (hi) (trivial)))); clear HO141 HK HB HI0; obtain ⟨HO141, HK, HB, HI0, -⟩ := n_; (try clear hb); (try clear hb2); (try clear hk); (try clear hi); refine Stop.out ?_))
 refine Stop.mk ?_
 replace H := H.out
 by_cases c6 : 0 ≤ t142
 ·rw [if_pos c6] at H; have c6b0 : decide (0 ≤ t142) = true := decide_eq_true c6; clear c6; (try simp only [c6b0])
  by_cases c7 : t142 < (y139.length : Int)
  ·rw [if_pos c7] at H
   have c7b0 : decide (t142 < (y139.length : Int)) = true := decide_eq_true c7
   clear c7; (try simp only [c7b0])
   by_cases c8 : (rdOf ByteArray.empty y139 t142).size < 140737488355328
   ·rw [if_pos c8] at H; have LMc8 := Aside0.mk c8; clear c8
    obtain ⟨y146, hy146⟩ : ∃ y_ : List Int, y_ = (bytesOf (rdOf ByteArray.empty y139 t142)) := ⟨_, rfl⟩
    replace H : (some (y146, t143, t144)) = some (r1, r2, r3) := by first | (rw [hy146]; with_reducible exact H) | (have H2_ := (Option.bind_some _ _).symm.trans H; rw [hy146]; with_reducible exact H2_) | (have H2_ := (Option.bind_some _ _).symm.trans H; with_reducible exact H2_) | with_reducible exact H | (rw [hy146]; exact H) | exact H
    have Ny146 := Aside0.mk hy146; clear hy146; simp only [Option.some.injEq, Prod.mk.injEq] at H; obtain ⟨rfl, rfl, rfl⟩ := H
    obtain ⟨Ao9, co9, eo9⟩ := Kd.R_slice HO141.out
    subst eo9
    have p145 : 0 ≤ (t142 : Int) := of_decide_eq_true (by first | (with_reducible assumption) | assumption)
    have q145 : t142 < (y139.length : Int) := of_decide_eq_true (by first | (with_reducible assumption) | assumption)
    obtain ⟨ad145, e145, hx145_0⟩ := Kd.at_string (Kd.R_reads' HO141.out).2.2 t142 p145 q145
    cases e145
    replace p145 := eq_true p145
    replace q145 := eq_true q145
    go_wp2_with (first | ((with_reducible refine gate_dst (N := 8) rfl ?_); refine Kd.R_conv w.heap.size rfl 9 22 5 _ rfl Try.underlying9 Try.underlying22 Try.underlying5 (rdOf ByteArray.empty y139 t142) rfl (fun _ => True) ?aF (Below.refl _ _) ?aS ?aL ?_; (case aF => exact (fun _ _ => trivial)); (case aS => exact (keep_size (w := w) (g := g) (row := none) (by repeat (first | (with_reducible first | exact HK.out | apply KeepBut.set_ | apply keep_drewN | apply keep_drew | apply keep_alloc) | exact HK.out)))); (case aL => have := LMc8.out; omega); intro v147 w10 ho hb hg hat; rw [← Ny146.out] at ho; have n_ := an (IsS46.grown (by repeat (first | (with_reducible first | exact HI0.out | apply IsS46.alloc | apply IsS46.drewN | apply IsS46.drew | apply IsS46.set_1 | apply IsS46.set_2) | exact HI0.out)) hg (by simp [Value.ownBlock])) (an (Kd.R_grown (by exact Kd.R_nw HO141.out) hg (fun _ _ => by simp [Value.ownBlock])) (an (below_weaken (by repeat (first | (with_reducible first | exact HB.out | apply below_alloc | apply pw_below_drewN | apply below_drew1 | refine below_set ?_ (IsS46.ge HI0.out)) | exact HB.out)) HL.out hb) (an (KeepBut.trans (by repeat (first | (with_reducible first | exact HK.out | apply KeepBut.set_ | apply keep_drewN | apply keep_drew | apply keep_alloc) | exact HK.out)) (KeepBut.of_grown hg g) (.inl (by simp [Value.ownBlock]))) (an (ho) (trivial))))); clear HI0 HO141 HB HK; obtain ⟨HI0, HO141, HB, HK, HO148, -⟩ := n_; clear ho hb hg hat))
    go_ret
    exact ⟨_, by first | rfl | (simp [errW_none, errW_some] <;> rfl) | (simp [*, errW_none, errW_some] <;> rfl), by exact Kd.R_nw HO148.out, by repeat (first | (with_reducible first | exact HI0.out | apply IsS46.alloc | apply IsS46.drewN | apply IsS46.drew | apply IsS46.set_1 | apply IsS46.set_2) | exact HI0.out), by repeat (first | (with_reducible first | exact HB.out | apply below_alloc | apply pw_below_drewN | apply below_drew1 | refine below_set ?_ (IsS46.ge HI0.out)) | exact HB.out), by repeat (first | (with_reducible first | exact HK.out | apply KeepBut.set_ | apply keep_drewN | apply keep_drew | apply keep_alloc) | exact HK.out)⟩
   ·rw [if_neg c8] at H
    exact absurd H (by simp)
  ·rw [if_neg c7] at H
   exact absurd H (by simp)
 ·rw [if_neg c6] at H
  exact absurd H (by simp)

/-! ### spec_l13own: function 31 -/
def spec_l13own.f (l0_0 : List Int) (a0_1 : Int) (a0_2 : Int) (a0_3 : Int) (a0_4 : Int) (a0_5 : Int) : Option (List Int × Int × Int × Int × Int × Int) := (some (([] : List Int) : List Int)).bind fun y151 => (if y151.length + l0_0.length < 140737488355328 then (some ((y151 ++ l0_0), a0_1, a0_2, a0_3, a0_4, a0_5)) else (none))
set_option maxHeartbeats 8000000 in
set_option maxRecDepth 100000 in
theorem spec_l13own.calls (A0_0 : Option Addr) (c0_0 : Nat) (l0_0 : List Int) (a0_1 : Int) (a0_2 : Int) (a0_3 : Int) (a0_4 : Int) (a0_5 : Int) (r1 : List Int) (r2 : Int) (r3 : Int) (r4 : Int) (r5 : Int) (r6 : Int) (w : World) (hr0_0 : Kd.C (Kd.int .u8) w A0_0 l0_0.length l0_0) (hc0_0 : l0_0.length ≤ c0_0) (h : spec_l13own.f l0_0 a0_1 a0_2 a0_3 a0_4 a0_5 = some (r1, r2, r3, r4, r5, r6)) :
  Calls Try.prog 31 #[.agg #[.slice A0_0 l0_0.length c0_0, .int .i64 a0_1, .int .i64 a0_2, .int .i64 a0_3, .int .i64 a0_4, .int .i64 a0_5]] w fun e w' => ∃ v0_ : Value, e = .returned (.agg #[v0_, .int .i64 r2, .int .i64 r3, .int .i64 r4, .int .i64 r5, .int .i64 r6]) ∧ Kd.R (Kd.int .u8) 5 w' w.heap.size (fun _ => True) v0_ r1 ∧ Below w.heap.size w w' := by
 have hu24 := Try.underlying24
 have HR0_0 := Aside0.mk hr0_0; have HC0_0 := Aside0.mk hc0_0; clear hr0_0 hc0_0
 have HB := Aside0.mk (Below.refl w.heap.size w)
 have H : ((some (([] : List Int) : List Int)).bind fun y151 => (if y151.length + l0_0.length < 140737488355328 then (some ((y151 ++ l0_0), a0_1, a0_2, a0_3, a0_4, a0_5)) else (none))) = some (r1, r2, r3, r4, r5, r6) := h
 clear h
 obtain ⟨y151, hy151⟩ : ∃ y_ : List Int, y_ = (([] : List Int)) := ⟨_, rfl⟩
 replace H : (if y151.length + l0_0.length < 140737488355328 then (some ((y151 ++ l0_0), a0_1, a0_2, a0_3, a0_4, a0_5)) else (none)) = some (r1, r2, r3, r4, r5, r6) := by first | (rw [hy151]; with_reducible exact H) | (have H2_ := (Option.bind_some _ _).symm.trans H; rw [hy151]; with_reducible exact H2_) | (have H2_ := (Option.bind_some _ _).symm.trans H; with_reducible exact H2_) | with_reducible exact H | (rw [hy151]; exact H) | exact H
 have Ny151 := Aside0.mk hy151; clear hy151; go_enter Try.func31, Try.ntmps31
 replace H := Aside0.mk H
 go_wp2_with (first | ((with_reducible refine gate_dst (N := 1) rfl ?_); refine box_event ?hg (N := 1) ?hd (cs := #[.slice A0_0 l0_0.length c0_0, .int .i64 a0_1, .int .i64 a0_2, .int .i64 a0_3, .int .i64 a0_4, .int .i64 a0_5]) (t := 24) ?hr ?_; (case hd => rfl); (case hg => rfl); (case hr => first | (go_simp; done) | (go_simp; rfl)); intro gb149 hg w2 hbox hb; have n_ := an (below_step (by exact bel0) hb) (an (hbox) (an ((by rw [hg]; exact (below_size (by exact bel0)) : w.heap.size ≤ gb149)) (an ((by rw [hg]; exact (below_size (by exact bel0)) : w.heap.size ≤ gb149)) (trivial)))); clear HB; obtain ⟨HB, BK149, GW149, GE149, -⟩ := n_; clear hb hbox hg) | ((with_reducible refine gate_dst (N := 2) rfl ?_); refine box_event ?hg (N := 2) ?hd (cs := #[.slice none 0 0, .int .i64 0, .int .i64 0, .int .i64 0, .int .i64 0, .int .i64 0]) (t := 24) ?hr ?_; (case hd => rfl); (case hg => rfl); (case hr => first | (go_simp; done) | (go_simp; rfl)); intro gb150 hg w3 hbox hb; have n_ := an (blk_below (blk_nw BK149.out) hb) (an (below_step (by exact bel0) hb) (an (hbox) (an ((by rw [hg]; exact (below_size (by exact bel0)) : w.heap.size ≤ gb150)) (an ((by rw [hg]; exact (below_size (by exact bel0)) : w.heap.size ≤ gb150)) (an ((by rw [hg]; exact Nat.ne_of_lt (blk_lt (blk_nw BK149.out)) : gb149 ≠ gb150)) (an ((by rw [hg]; exact Nat.ne_of_gt (blk_lt (blk_nw BK149.out)) : gb150 ≠ gb149)) (trivial))))))); clear BK149 HB; obtain ⟨BK149, HB, BK150, GW150, GE150, NB149_150, NB150_149, -⟩ := n_; clear hb hbox hg) | ((with_reducible refine gate_dst (N := 3) rfl ?_); refine Kd.R_lit (Kd.int .u8) _ 5 ?hg (N := 3) ?hd (xs := ([] : List Int)) (inner := []) (ok := fun _ => True) (okp := fun _ => True) ?hr ?hp (fun _ hk => hk) trivial (Below.refl _ _) (Nat.le_refl _) (by simp) ?_; (case hd => rfl); (case hg => rfl); (case hr => first | (go_simp; done) | (go_simp; rfl)); (case hp => exact (Reps.none _ _)); intro v152 w4 ho5 hb hg_ hnew_; clear hg_ hnew_; (first | rw [← Ny151.out] at ho5 | (simp only [Int.reduceToNat] at ho5; rw [← Ny151.out] at ho5)); have n_ := an (Kd.R_lower ho5 (below_size (by exact bel0))) (an (blk_below (blk_nw BK149.out) hb) (an (blk_below (blk_nw BK150.out) hb) (an (below_step (by exact bel0) hb) (trivial)))); clear BK149 BK150 HB; obtain ⟨HO153, BK149, BK150, HB, -⟩ := n_; clear hb ho5; have hnb6 := NB149_150.out; have hnc6 := NB150_149.out; obtain ⟨hcz7_0, hcz7_1, hcz7_2, hcz7_3, hcz7_4, hcz7_5⟩ := blkz6 BK149.out; have hfz7_0 := blkf BK149.out; refine Stop.out ?_))
 refine Stop.mk ?_
 replace H := H.out
 by_cases c8 : y151.length + l0_0.length < 140737488355328
 ·rw [if_pos c8] at H; have LMc8 := Aside0.mk c8; clear c8
  obtain ⟨y154, hy154⟩ : ∃ y_ : List Int, y_ = (y151 ++ l0_0) := ⟨_, rfl⟩
  replace H : (some (y154, a0_1, a0_2, a0_3, a0_4, a0_5)) = some (r1, r2, r3, r4, r5, r6) := by first | (rw [hy154]; with_reducible exact H) | (have H2_ := (Option.bind_some _ _).symm.trans H; rw [hy154]; with_reducible exact H2_) | (have H2_ := (Option.bind_some _ _).symm.trans H; with_reducible exact H2_) | with_reducible exact H | (rw [hy154]; exact H) | exact H
  have Ny154 := Aside0.mk hy154; clear hy154; simp only [Option.some.injEq, Prod.mk.injEq] at H; obtain ⟨rfl, rfl, rfl, rfl, rfl, rfl⟩ := H
  go_wp2_with (first | ((with_reducible refine gate_builtin (b := .append) (xs := #[.tmp 3, .tmp 5]) rfl ?_); at_builtin; refine Kd.R_append_rows (Kd.int .u8) (w0 := w) w.heap.size rfl (.tmp 3) (.tmp 5) 22 5 (.int .u8 0) 1 rfl Try.underlying22 info5 rfl (by decide) (by omega) v152 y151 l0_0 _ _ _ (fun _ => True) (fun _ => False) rfl rfl ?aO ?aR (fun _ _ h => h) (fun _ h => h.elim) ?aF ?aB ?aS ?aL ?_; (case aR => repeat (first | exact (Kd.C_below HR0_0.out HB.out) | (with_reducible refine Kd.C_alloc ?_ _) | (with_reducible refine Kd.C_drewN ?_ _) | (with_reducible refine Kd.C_drew ?_))); (case aB => exact (by exact bel0)); (case aF => exact (fun _ _ => trivial)); (case aO => exact (by exact Kd.R_nw HO153.out)); (case aS => exact (below_size (by exact bel0))); (case aL => have := LMc8.out; omega); intro v155 w9 ho hb hg hat; rw [← Ny154.out] at ho; have n_ := an (blk_grown (blk_nw BK149.out) hg (Kd.R_ne HO153.out BK149.out (by decide))) (an (blk_grown (blk_nw BK150.out) hg (Kd.R_ne HO153.out BK150.out (by decide))) (an (hb) (an (ho) (trivial)))); clear BK149 BK150 HB HO153; obtain ⟨BK149, BK150, HB, HO156, -⟩ := n_; clear ho hb hg hat; obtain ⟨Ao10, co10, eo10⟩ := Kd.R_slice HO156.out; subst eo10; have hnb11 := NB149_150.out; have hnc11 := NB150_149.out; obtain ⟨hcz12_0, hcz12_1, hcz12_2, hcz12_3, hcz12_4, hcz12_5⟩ := blkz6 BK149.out; have hfz12_0 := blkf BK149.out; obtain ⟨hcz13_0, hcz13_1, hcz13_2, hcz13_3, hcz13_4, hcz13_5⟩ := blkz6 BK150.out; have hfz13_0 := blkf BK150.out))
  refine bodyPost_ret (results_cell_row rfl _ _ gb150 24 #[.slice Ao10 y154.length co10, .int .i64 a0_1, .int .i64 a0_2, .int .i64 a0_3, .int .i64 a0_4, .int .i64 a0_5] (0, 0) _ rfl (by (with_reducible repeat (first | refine blk_drewN ?_ _ | refine blk_drew ?_ | refine blk_alloc ?_ _)); refine blk_put (cs := #[.slice Ao10 y154.length co10, .int .i64 a0_1, .int .i64 a0_2, .int .i64 a0_3, .int .i64 a0_4, .int .i64 0]) ?_ 5 _ rfl; (with_reducible repeat (first | refine blk_drewN ?_ _ | refine blk_drew ?_ | refine blk_alloc ?_ _)); refine blk_put (cs := #[.slice Ao10 y154.length co10, .int .i64 a0_1, .int .i64 a0_2, .int .i64 a0_3, .int .i64 0, .int .i64 0]) ?_ 4 _ rfl; (with_reducible repeat (first | refine blk_drewN ?_ _ | refine blk_drew ?_ | refine blk_alloc ?_ _)); refine blk_put (cs := #[.slice Ao10 y154.length co10, .int .i64 a0_1, .int .i64 a0_2, .int .i64 0, .int .i64 0, .int .i64 0]) ?_ 3 _ rfl; (with_reducible repeat (first | refine blk_drewN ?_ _ | refine blk_drew ?_ | refine blk_alloc ?_ _)); refine blk_put (cs := #[.slice Ao10 y154.length co10, .int .i64 a0_1, .int .i64 0, .int .i64 0, .int .i64 0, .int .i64 0]) ?_ 2 _ rfl; (with_reducible repeat (first | refine blk_drewN ?_ _ | refine blk_drew ?_ | refine blk_alloc ?_ _)); refine blk_put (cs := #[.slice Ao10 y154.length co10, .int .i64 0, .int .i64 0, .int .i64 0, .int .i64 0, .int .i64 0]) ?_ 1 _ rfl; (with_reducible repeat (first | refine blk_drewN ?_ _ | refine blk_drew ?_ | refine blk_alloc ?_ _)); refine blk_put (cs := #[.slice none 0 0, .int .i64 0, .int .i64 0, .int .i64 0, .int .i64 0, .int .i64 0]) ?_ 0 _ rfl; (with_reducible repeat (first | refine blk_drewN ?_ _ | refine blk_drew ?_ | refine blk_alloc ?_ _)); refine blk_far ?_ NB150_149.out _; (with_reducible repeat (first | refine blk_drewN ?_ _ | refine blk_drew ?_ | refine blk_alloc ?_ _)); exact BK150.out) Try.underlying24 rfl (by kernel_rfl)) rfl ?_
  exact ⟨_, by first | rfl | (simp [errW_none, errW_some] <;> rfl) | (simp [*, errW_none, errW_some] <;> rfl), by (with_reducible repeat (first | apply Kd.R_alloc | apply Kd.R_drewN | apply Kd.R_drew)); exact Kd.R_mono (Kd.R_far (p := ⟨gb150, 5, none⟩) (Kd.R_far (p := ⟨gb150, 4, none⟩) (Kd.R_far (p := ⟨gb150, 3, none⟩) (Kd.R_far (p := ⟨gb150, 2, none⟩) (Kd.R_far (p := ⟨gb150, 1, none⟩) (Kd.R_far (p := ⟨gb150, 0, none⟩) (Kd.R_far (p := ⟨gb149, 0, none⟩) (Kd.R_types (Kd.R_types HO156.out BK149.out (by decide)) BK150.out (by decide)) (fun _ hk => hk.1.2) (.slice Ao10 y154.length co10)) (fun _ hk => hk.2) (.slice Ao10 y154.length co10)) (fun _ hk => hk.2) (.int .i64 a0_1)) (fun _ hk => hk.2) (.int .i64 a0_2)) (fun _ hk => hk.2) (.int .i64 a0_3)) (fun _ hk => hk.2) (.int .i64 a0_4)) (fun _ hk => hk.2) (.int .i64 a0_5)) (fun _ hk => trivial), by exact bel0⟩
 ·rw [if_neg c8] at H
  exact absurd H (by simp)

end Go.Proofs.Ytgkoinnjpcpccaa.XFnChecks
