-- Written by this session's own program (xprint.py) over the kit's print.
import Derived.Test.YtkeplodbjldaiaaXFnExactLocalOkx0
import Derived.Test.YtkeplodbjldaiaaXFnExactLocalOkx1
namespace Go.Proofs.Ytkeplodbjldaiaa.XFnExactLocalOk
open Go.RowKit Go.Proofs.YtkeplodbjldaiaaW.PrintWords Go.Proofs.YtkeplodbjldaiaaW.PrintLast Go.Proofs.YtkeplodbjldaiaaW.PrintMore
attribute [local go_sem] max2_int min2_int max_two min_two max_three min_three max_four min_four   -- for this text's walks alone
set_option linter.unusedVariables false
set_option linter.unusedSimpArgs false

/-! ### spec_l14part: function 16 -/
def spec_l14part.l0 : Nat → List Int → Int → Option (Bool)
  | 0, _, _ => none
  | k + 1, x0, x3 => if x3 < (x0.length : Int) then (if 0 ≤ x3 then (if (rd x0 x3) = 47 then (some false) else (spec_l14part.l0 k x0 (wrap64 (x3 + 1)))) else (none)) else ((spec_l2key.f k x0).bind fun t118 => (some t118))
def spec_l14part.f (k : Nat) (l0 : List Int) : Option (Bool) := spec_l14part.l0 k l0 0
theorem spec_l14part.mono_l : ∀ k, (∀ y0 y1, LeO (spec_l14part.l0 k y0 y1) (spec_l14part.l0 (k + 1) y0 y1))
 | 0 => fun _ _ r h => by simp [spec_l14part.l0] at h
 | k + 1 => by
  have ih0 := spec_l14part.mono_l k
  ·intro y0 y1
   unfold spec_l14part.l0
   repeat' first
   | (with_reducible exact ih0 _ _)
   | (with_reducible exact spec_l2key.mono _ _)
   | (with_reducible exact LeO.refl _)
   | (with_reducible exact LeO.none _)
   | (with_reducible refine LeO.ite ?_ ?_)
   | (with_reducible refine LeO.bind ?_ (fun _ => ?_))
   | exact ih0 _ _
   | exact spec_l2key.mono _ _
   | exact LeO.none _
   | refine LeO.ite ?_ ?_
   | refine LeO.bind ?_ (fun _ => ?_)
theorem spec_l14part.mono : ∀ a0 k, LeO (spec_l14part.f k a0) (spec_l14part.f (k + 1) a0) := by
 intro a0 k
 have ih0 := spec_l14part.mono_l k
 unfold spec_l14part.f
 repeat' first
   | (with_reducible exact ih0 _ _)
   | (with_reducible exact spec_l2key.mono _ _)
   | (with_reducible exact LeO.refl _)
   | (with_reducible exact LeO.none _)
   | (with_reducible refine LeO.ite ?_ ?_)
   | (with_reducible refine LeO.bind ?_ (fun _ => ?_))
   | exact ih0 _ _
   | exact spec_l2key.mono _ _
   | exact LeO.none _
   | refine LeO.ite ?_ ?_
   | refine LeO.bind ?_ (fun _ => ?_)
set_option maxHeartbeats 8000000 in
set_option maxRecDepth 100000 in
theorem spec_l14part.calls (k : Nat) (A0 : Option Addr) (c0 : Nat) (l0 : List Int) (r : Bool) (w : World) (hr0 : Kd.C (Kd.int .u8) w A0 l0.length l0) (hc0 : l0.length ≤ c0) (h : spec_l14part.f k l0 = some r) :
  Calls Try.prog 16 #[.slice A0 l0.length c0] w fun e w' => e = .returned (.bool r) ∧ Drawn0 w w' := by
 have HR0 := Aside0.mk hr0; have HC0 := Aside0.mk hc0; clear hr0 hc0
 have H : (spec_l14part.l0 k l0 0) = some r := h
 clear h
 have H' := Aside0.mk H
 clear H; go_enter Try.func16, Try.ntmps16
 go_wp2
 go_loopg [3] k (fun kq v3 w' => ∃ (x3_1 : Int), v3 = .int .i64 x3_1 ∧ Aside0 (spec_l14part.l0 kq l0 x3_1 = some r) ∧ Aside0 (kq ≤ k) ∧ Drawn0 w w')
 case atStart => exact ⟨(0), (by first | rfl | (simp; done) | (simp [*]; done)), H', ⟨Nat.le_refl _⟩, by repeat (first | exact Drawn0.refl _ | apply Drawn0.step)⟩
 case round =>
  clear H'
  try clear c1
  obtain ⟨x3_1, rfl, HA, HK1, ⟨m1, rfl⟩⟩ := hrel
  cases gk with
  | zero => exact absurd HA.out (by simp [spec_l14part.l0])
  | succ k1 =>
   have H := HA.out; clear HA
   simp only [spec_l14part.l0] at H
   by_cases c2 : x3_1 < (l0.length : Int)
   ·rw [if_pos c2] at H
    have c2b0 : decide (x3_1 < (l0.length : Int)) = true := decide_eq_true c2
    clear c2; (try simp only [c2b0])
    by_cases c3 : 0 ≤ x3_1
    ·rw [if_pos c3] at H; have c3b0 : decide (0 ≤ x3_1) = true := decide_eq_true c3; clear c3; (try simp only [c3b0])
     by_cases c4 : (rd l0 x3_1) = 47
     ·rw [if_pos c4] at H; have c4b0 : ((rd l0 x3_1) == 47) = true := beq_iff_eq.mpr c4; have c4b1 : ((rd l0 x3_1) != 47) = false := bne_eq_false_iff_eq.mpr c4; clear c4
      obtain rfl := Option.some.inj H
      have p117 : 0 ≤ (x3_1 : Int) := of_decide_eq_true (by first | (with_reducible assumption) | assumption)
      have q117 : x3_1 < (l0.length : Int) := of_decide_eq_true (by first | (with_reducible assumption) | assumption)
      obtain ⟨ad117, e117, hx117_0⟩ := Kd.at_int HR0.out x3_1 p117 q117
      cases e117
      replace p117 := eq_true p117
      replace q117 := eq_true q117
      go_wp2
      go_ret
      exact ⟨by first | rfl | (simp; done) | (simp [*]; done), by repeat (first | exact Drawn0.refl _ | apply Drawn0.step)⟩
     ·rw [if_neg c4] at H; have c4b0 : ((rd l0 x3_1) == 47) = false := beq_eq_false_iff_ne.mpr c4; have c4b1 : ((rd l0 x3_1) != 47) = true := bne_iff_ne.mpr c4
      have H' := Aside0.mk H
      clear H
      have p117 : 0 ≤ (x3_1 : Int) := of_decide_eq_true (by first | (with_reducible assumption) | assumption)
      have q117 : x3_1 < (l0.length : Int) := of_decide_eq_true (by first | (with_reducible assumption) | assumption)
      obtain ⟨ad117, e117, hx117_0⟩ := Kd.at_int HR0.out x3_1 p117 q117
      cases e117
      replace p117 := eq_true p117
      replace q117 := eq_true q117
      go_wp2
      go_roundg k1
      case measure => have := HK1.out; omega
      case rel => exact ⟨(wrap64 (x3_1 + 1)), (by first | rfl | (simp; done) | (simp [*]; done)), H', ⟨by have := HK1.out; omega⟩, by repeat (first | exact Drawn0.refl _ | apply Drawn0.step)⟩
    ·rw [if_neg c3] at H
     exact absurd H (by simp)
   ·rw [if_neg c2] at H
    have c2b0 : decide (x3_1 < (l0.length : Int)) = false := decide_eq_false c2
    clear c2; (try simp only [c2b0]); replace H := Option.bind_eq_some_iff.mp H; obtain ⟨t118, A50, H⟩ := H; have A5 := Aside0.mk A50; clear A50
    obtain rfl := Option.some.inj H
    go_wp2_with (first | ((with_reducible refine gate_callee (f := 17) rfl ?_); refine goesL_ (some 16) rfl rfl Try.func17 (by kernel_rfl) rfl #[.slice A0 l0.length c0] rfl (by (try simp only [List.map_toArray, List.map_cons, List.map_nil]); first | done | rfl | (simp only [List.length_drop, List.length_take]; rfl)) ?_; (with_reducible refine (spec_l2key.calls k1 _ _ l0 t118 _ ?side1 ?side2 A5.out).mono ?_); (case side1 => repeat (first | exact HR0.out | (with_reducible refine Kd.C_alloc ?_ _) | (with_reducible refine Kd.C_drewN ?_ _) | (with_reducible refine Kd.C_drew ?_))); (case side2 => exact HC0.out); rintro e w' ⟨rfl, ⟨nd, rfl⟩⟩; refine ⟨_, rfl, ?_⟩))
    go_ret
    exact ⟨by first | rfl | (simp; done) | (simp [*]; done), by repeat (first | exact Drawn0.refl _ | apply Drawn0.step)⟩

/-! ### spec_l14key: function 18 -/
def spec_l14key.f (l0 : List Int) (l1 : List Int) : Option (List Int) := (some ((([115, 118, 99, 47] : List Int)) : List Int)).bind fun y122 => (if y122.length + l0.length < 140737488355328 then ((some (y122 ++ l0 : List Int)).bind fun y125 => (if y125.length < 140737488355328 then ((some (y125 ++ [47] : List Int)).bind fun y128 => (if y128.length + l1.length < 140737488355328 then (some (y128 ++ l1)) else (none))) else (none))) else (none))
set_option maxHeartbeats 8000000 in
set_option maxRecDepth 100000 in
theorem spec_l14key.calls (A0 : Option Addr) (c0 : Nat) (l0 : List Int) (A1 : Option Addr) (c1 : Nat) (l1 : List Int) (r : List Int) (w : World) (hr0 : Kd.C (Kd.int .u8) w A0 l0.length l0) (hc0 : l0.length ≤ c0) (hr1 : Kd.C (Kd.int .u8) w A1 l1.length l1) (hc1 : l1.length ≤ c1) (h : spec_l14key.f l0 l1 = some r) :
  Calls Try.prog 18 #[.slice A0 l0.length c0, .slice A1 l1.length c1] w fun e w' => ∃ v0_ : Value, e = .returned (v0_) ∧ Kd.R (Kd.int .u8) 5 w' w.heap.size (fun _ => True) v0_ r ∧ Below w.heap.size w w' := by
 have HR0 := Aside0.mk hr0; have HC0 := Aside0.mk hc0; clear hr0 hc0; have HR1 := Aside0.mk hr1; have HC1 := Aside0.mk hc1; clear hr1 hc1
 have HB := Aside0.mk (Below.refl w.heap.size w)
 have H : ((some ((([115, 118, 99, 47] : List Int)) : List Int)).bind fun y122 => (if y122.length + l0.length < 140737488355328 then ((some (y122 ++ l0 : List Int)).bind fun y125 => (if y125.length < 140737488355328 then ((some (y125 ++ [47] : List Int)).bind fun y128 => (if y128.length + l1.length < 140737488355328 then (some (y128 ++ l1)) else (none))) else (none))) else (none))) = some r := h
 clear h
 obtain ⟨y119, hy119⟩ : ∃ y_ : List Int, y_ = (([115, 118, 99, 47] : List Int)) := ⟨_, rfl⟩
 replace H : ((some (y119 : List Int)).bind fun y122 => (if y122.length + l0.length < 140737488355328 then ((some (y122 ++ l0 : List Int)).bind fun y125 => (if y125.length < 140737488355328 then ((some (y125 ++ [47] : List Int)).bind fun y128 => (if y128.length + l1.length < 140737488355328 then (some (y128 ++ l1)) else (none))) else (none))) else (none))) = some r := by first | (rw [hy119]; with_reducible exact H) | (have H2_ := (Option.bind_some _ _).symm.trans H; rw [hy119]; with_reducible exact H2_) | (have H2_ := (Option.bind_some _ _).symm.trans H; with_reducible exact H2_) | with_reducible exact H | (rw [hy119]; exact H) | exact H
 have Ny119 := Aside0.mk hy119; clear hy119
 obtain ⟨y122, hy122⟩ : ∃ y_ : List Int, y_ = (y119) := ⟨_, rfl⟩
 replace H : (if y122.length + l0.length < 140737488355328 then ((some (y122 ++ l0 : List Int)).bind fun y125 => (if y125.length < 140737488355328 then ((some (y125 ++ [47] : List Int)).bind fun y128 => (if y128.length + l1.length < 140737488355328 then (some (y128 ++ l1)) else (none))) else (none))) else (none)) = some r := by first | (rw [hy122]; with_reducible exact H) | (have H2_ := (Option.bind_some _ _).symm.trans H; rw [hy122]; with_reducible exact H2_) | (have H2_ := (Option.bind_some _ _).symm.trans H; with_reducible exact H2_) | with_reducible exact H | (rw [hy122]; exact H) | exact H
 have Ny122 := Aside0.mk hy122; clear hy122; go_enter Try.func18, Try.ntmps18
 replace H := Aside0.mk H
 go_wp2_with (first | ((with_reducible refine gate_dst (N := 5) rfl ?_); refine Kd.R_lit (Kd.int .u8) _ 5 ?hg (N := 5) ?hd (xs := ([115, 118, 99, 47] : List Int)) (inner := [.int .u8 115, .int .u8 118, .int .u8 99, .int .u8 47]) (ok := fun _ => True) (okp := fun _ => True) ?hr ?hp (fun _ hk => hk) trivial (Below.refl _ _) (Nat.le_refl _) (by simp) ?_; (case hd => rfl); (case hg => rfl); (case hr => first | (go_simp; done) | (go_simp; rfl)); (case hp => exact (Reps.one (show Kd.M (Kd.int .u8) _ _ _ 115 [.int .u8 115] from rfl) (Reps.one (show Kd.M (Kd.int .u8) _ _ _ 118 [.int .u8 118] from rfl) (Reps.one (show Kd.M (Kd.int .u8) _ _ _ 99 [.int .u8 99] from rfl) (Reps.one (show Kd.M (Kd.int .u8) _ _ _ 47 [.int .u8 47] from rfl) (Reps.none _ _)))))); intro v120 w3 ho4 hb hg_ hnew_; clear hg_ hnew_; (first | rw [← Ny119.out] at ho4 | (simp only [Int.reduceToNat] at ho4; rw [← Ny119.out] at ho4)); have n_ := an (Kd.R_lower ho4 (below_size (by exact bel0))) (an (below_step (by exact bel0) hb) (trivial)); clear HB; obtain ⟨HO121, HB, -⟩ := n_; clear hb ho4) | ((with_reducible refine gate_dst (N := 6) rfl ?_); refine Kd.R_mark (w0 := w) w.heap.size rfl 22 5 _ rfl Try.underlying22 Try.underlying5 v120 y119 rfl (fun _ => True) ?aP ?aO ?aB ?aS ?_; (case aP => exact (by rw [Ny119.out]; decide)); (case aB => exact (by exact bel0)); (case aO => exact (by exact Kd.R_nw HO121.out)); (case aS => exact (below_size (by exact bel0))); intro v123 w5 ho hb hg hat; rw [← Ny122.out] at ho; have n_ := an (hb) (an (ho) (trivial)); clear HB HO121; obtain ⟨HB, HO124, -⟩ := n_; clear ho hb hg hat; refine Stop.out ?_))
 refine Stop.mk ?_
 replace H := H.out
 by_cases c6 : y122.length + l0.length < 140737488355328
 ·rw [if_pos c6] at H; have LMc6 := Aside0.mk c6; clear c6
  obtain ⟨y125, hy125⟩ : ∃ y_ : List Int, y_ = (y122 ++ l0) := ⟨_, rfl⟩
  replace H : (if y125.length < 140737488355328 then ((some (y125 ++ [47] : List Int)).bind fun y128 => (if y128.length + l1.length < 140737488355328 then (some (y128 ++ l1)) else (none))) else (none)) = some r := by first | (rw [hy125]; with_reducible exact H) | (have H2_ := (Option.bind_some _ _).symm.trans H; rw [hy125]; with_reducible exact H2_) | (have H2_ := (Option.bind_some _ _).symm.trans H; with_reducible exact H2_) | with_reducible exact H | (rw [hy125]; exact H) | exact H
  have Ny125 := Aside0.mk hy125; clear hy125
  replace H := Aside0.mk H
  go_wp2_with (first | ((with_reducible refine gate_builtin (b := .append) (xs := #[.tmp 6, .tmp 7]) rfl ?_); at_builtin; refine Kd.R_append_rows (Kd.int .u8) (w0 := w) w.heap.size rfl (.tmp 6) (.tmp 7) 22 5 (.int .u8 0) 1 rfl Try.underlying22 info5 rfl (by decide) (by omega) v123 y122 l0 _ _ _ (fun _ => True) (fun _ => False) rfl rfl ?aO ?aR (fun _ _ h => h) (fun _ h => h.elim) ?aF ?aB ?aS ?aL ?_; (case aR => repeat (first | exact (Kd.C_below HR0.out HB.out) | (with_reducible refine Kd.C_alloc ?_ _) | (with_reducible refine Kd.C_drewN ?_ _) | (with_reducible refine Kd.C_drew ?_))); (case aB => exact (by exact bel0)); (case aF => exact (fun _ _ => trivial)); (case aO => exact (by exact Kd.R_nw HO124.out)); (case aS => exact (below_size (by exact bel0))); (case aL => have := LMc6.out; omega); intro v126 w7 ho hb hg hat; rw [← Ny125.out] at ho; have n_ := an (hb) (an (ho) (trivial)); clear HB HO124; obtain ⟨HB, HO127, -⟩ := n_; clear ho hb hg hat; refine Stop.out ?_))
  refine Stop.mk ?_
  replace H := H.out
  by_cases c8 : y125.length < 140737488355328
  ·rw [if_pos c8] at H; have LMc8 := Aside0.mk c8; clear c8
   obtain ⟨y128, hy128⟩ : ∃ y_ : List Int, y_ = (y125 ++ [47]) := ⟨_, rfl⟩
   replace H : (if y128.length + l1.length < 140737488355328 then (some (y128 ++ l1)) else (none)) = some r := by first | (rw [hy128]; with_reducible exact H) | (have H2_ := (Option.bind_some _ _).symm.trans H; rw [hy128]; with_reducible exact H2_) | (have H2_ := (Option.bind_some _ _).symm.trans H; with_reducible exact H2_) | with_reducible exact H | (rw [hy128]; exact H) | exact H
   have Ny128 := Aside0.mk hy128; clear hy128
   replace H := Aside0.mk H
   go_wp2_with (first | ((with_reducible refine gate_builtin (b := .append) (xs := #[.tmp 8, .tmp 9]) rfl ?_); at_builtin; refine Kd.R_append (Kd.int .u8) (w0 := w) w.heap.size rfl (.tmp 8) (.tmp 9) 22 5 (.int .u8 0) 1 rfl Try.underlying22 info5 rfl (by decide) (by omega) v126 y125 47 [.int .u8 47] (fun _ => True) (fun _ => False) rfl rfl ?aP (fun _ hk => hk.elim) ?aF ?aO ?aB ?aS ?aL ?_; (case aP => exact rfl); (case aB => exact (by exact bel0)); (case aF => exact (fun _ _ => trivial)); (case aO => exact (by exact Kd.R_nw HO127.out)); (case aS => exact (below_size (by exact bel0))); (case aL => have := LMc8.out; omega); intro v129 w9 ho hb hg hat; rw [← Ny128.out] at ho; have n_ := an (hb) (an (ho) (trivial)); clear HB HO127; obtain ⟨HB, HO130, -⟩ := n_; clear ho hb hg hat; refine Stop.out ?_))
   refine Stop.mk ?_
   replace H := H.out
   by_cases c10 : y128.length + l1.length < 140737488355328
   ·rw [if_pos c10] at H; have LMc10 := Aside0.mk c10; clear c10
    obtain ⟨y131, hy131⟩ : ∃ y_ : List Int, y_ = (y128 ++ l1) := ⟨_, rfl⟩
    replace H : (some y131) = some r := by first | (rw [hy131]; with_reducible exact H) | (have H2_ := (Option.bind_some _ _).symm.trans H; rw [hy131]; with_reducible exact H2_) | (have H2_ := (Option.bind_some _ _).symm.trans H; with_reducible exact H2_) | with_reducible exact H | (rw [hy131]; exact H) | exact H
    have Ny131 := Aside0.mk hy131; clear hy131
    obtain rfl := Option.some.inj H
    go_wp2_with (first | ((with_reducible refine gate_builtin (b := .append) (xs := #[.tmp 10, .tmp 11]) rfl ?_); at_builtin; refine Kd.R_append_rows (Kd.int .u8) (w0 := w) w.heap.size rfl (.tmp 10) (.tmp 11) 22 5 (.int .u8 0) 1 rfl Try.underlying22 info5 rfl (by decide) (by omega) v129 y128 l1 _ _ _ (fun _ => True) (fun _ => False) rfl rfl ?aO ?aR (fun _ _ h => h) (fun _ h => h.elim) ?aF ?aB ?aS ?aL ?_; (case aR => repeat (first | exact (Kd.C_below HR1.out HB.out) | (with_reducible refine Kd.C_alloc ?_ _) | (with_reducible refine Kd.C_drewN ?_ _) | (with_reducible refine Kd.C_drew ?_))); (case aB => exact (by exact bel0)); (case aF => exact (fun _ _ => trivial)); (case aO => exact (by exact Kd.R_nw HO130.out)); (case aS => exact (below_size (by exact bel0))); (case aL => have := LMc10.out; omega); intro v132 w11 ho hb hg hat; rw [← Ny131.out] at ho; have n_ := an (hb) (an (ho) (trivial)); clear HB HO130; obtain ⟨HB, HO133, -⟩ := n_; clear ho hb hg hat))
    go_ret
    exact ⟨_, by first | rfl | (simp [errW_none, errW_some] <;> rfl) | (simp [*, errW_none, errW_some] <;> rfl), by exact Kd.R_nw HO133.out, by exact bel0⟩
   ·rw [if_neg c10] at H
    exact absurd H (by simp)
  ·rw [if_neg c8] at H
   exact absurd H (by simp)
 ·rw [if_neg c6] at H
  exact absurd H (by simp)

/-! ### spec_CheckOk: function 19 -/
def spec_CheckOk.j0 : Nat → Bool → List Int → Int → Int → Int → Int → Int → Option (Bool)
  | 0, _, _, _, _, _, _, _ => none
  | k + 1, x58, x135000, x135001, x135002, x135003, x135004, x135005 => if x58 = true then (some false) else (if x135001 > 0 then (if x135004 ≥ x135001 then (if x135003 = 2 then (if x135003 = 0 then (some (x135005 == 0)) else (some true)) else (some false)) else (if x135003 = 0 then (some (x135005 == 0)) else (some true))) else (if x135003 = 0 then (some (x135005 == 0)) else (some true)))
def spec_CheckOk.f (k : Nat) (l0_0 : List Int) (a0_1 : Int) (a0_2 : Int) (a0_3 : Int) (a0_4 : Int) (a0_5 : Int) : Option (Bool) := (spec_l2key.f k l0_0).bind fun t135 => (if t135 = true then (if a0_1 < 0 then (spec_CheckOk.j0 k true l0_0 a0_1 a0_2 a0_3 a0_4 a0_5) else (if a0_1 > 1000 then (spec_CheckOk.j0 k true l0_0 a0_1 a0_2 a0_3 a0_4 a0_5) else (if a0_2 < 1 then (spec_CheckOk.j0 k true l0_0 a0_1 a0_2 a0_3 a0_4 a0_5) else (if a0_2 > 5 then (spec_CheckOk.j0 k true l0_0 a0_1 a0_2 a0_3 a0_4 a0_5) else (if a0_3 < 0 then (spec_CheckOk.j0 k true l0_0 a0_1 a0_2 a0_3 a0_4 a0_5) else (if a0_3 > 2 then (spec_CheckOk.j0 k true l0_0 a0_1 a0_2 a0_3 a0_4 a0_5) else (if a0_4 < 0 then (spec_CheckOk.j0 k true l0_0 a0_1 a0_2 a0_3 a0_4 a0_5) else (if a0_4 > 1000 then (spec_CheckOk.j0 k true l0_0 a0_1 a0_2 a0_3 a0_4 a0_5) else (if a0_5 < 0 then (spec_CheckOk.j0 k true l0_0 a0_1 a0_2 a0_3 a0_4 a0_5) else (spec_CheckOk.j0 k (decide (a0_5 > a0_2)) l0_0 a0_1 a0_2 a0_3 a0_4 a0_5)))))))))) else (spec_CheckOk.j0 k true l0_0 a0_1 a0_2 a0_3 a0_4 a0_5))
theorem spec_CheckOk.mono_l : ∀ k, (∀ y0 y1 y2 y3 y4 y5 y6, LeO (spec_CheckOk.j0 k y0 y1 y2 y3 y4 y5 y6) (spec_CheckOk.j0 (k + 1) y0 y1 y2 y3 y4 y5 y6))
 | 0 => fun _ _ _ _ _ _ _ r h => by simp [spec_CheckOk.j0] at h
 | k + 1 => by
  have ih0 := spec_CheckOk.mono_l k
  ·intro y0 y1 y2 y3 y4 y5 y6
   unfold spec_CheckOk.j0
   repeat' first
   | (with_reducible exact ih0 _ _ _ _ _ _ _)
   | (with_reducible exact spec_l2key.mono _ _)
   | (with_reducible exact LeO.refl _)
   | (with_reducible exact LeO.none _)
   | (with_reducible refine LeO.ite ?_ ?_)
   | (with_reducible refine LeO.bind ?_ (fun _ => ?_))
   | exact ih0 _ _ _ _ _ _ _
   | exact spec_l2key.mono _ _
   | exact LeO.none _
   | refine LeO.ite ?_ ?_
   | refine LeO.bind ?_ (fun _ => ?_)
theorem spec_CheckOk.mono : ∀ a0 a1 a2 a3 a4 a5 k, LeO (spec_CheckOk.f k a0 a1 a2 a3 a4 a5) (spec_CheckOk.f (k + 1) a0 a1 a2 a3 a4 a5) := by
 intro a0 a1 a2 a3 a4 a5 k
 have ih0 := spec_CheckOk.mono_l k
 unfold spec_CheckOk.f
 repeat' first
   | (with_reducible exact ih0 _ _ _ _ _ _ _)
   | (with_reducible exact spec_l2key.mono _ _)
   | (with_reducible exact LeO.refl _)
   | (with_reducible exact LeO.none _)
   | (with_reducible refine LeO.ite ?_ ?_)
   | (with_reducible refine LeO.bind ?_ (fun _ => ?_))
   | exact ih0 _ _ _ _ _ _ _
   | exact spec_l2key.mono _ _
   | exact LeO.none _
   | refine LeO.ite ?_ ?_
   | refine LeO.bind ?_ (fun _ => ?_)
set_option maxHeartbeats 8000000 in
set_option maxRecDepth 100000 in
theorem spec_CheckOk.calls (k : Nat) (A0_0 : Option Addr) (c0_0 : Nat) (l0_0 : List Int) (a0_1 : Int) (a0_2 : Int) (a0_3 : Int) (a0_4 : Int) (a0_5 : Int) (r : Bool) (w : World) (hr0_0 : Kd.C (Kd.int .u8) w A0_0 l0_0.length l0_0) (hc0_0 : l0_0.length ≤ c0_0) (h : spec_CheckOk.f k l0_0 a0_1 a0_2 a0_3 a0_4 a0_5 = some r) :
  Calls Try.prog 19 #[.agg #[.slice A0_0 l0_0.length c0_0, .int .i64 a0_1, .int .i64 a0_2, .int .i64 a0_3, .int .i64 a0_4, .int .i64 a0_5]] w fun e w' => e = .returned (.bool r) ∧ Below w.heap.size w w' := by
 have hu47 := Try.underlying47
 have HR0_0 := Aside0.mk hr0_0; have HC0_0 := Aside0.mk hc0_0; clear hr0_0 hc0_0
 have HB := Aside0.mk (Below.refl w.heap.size w)
 have H : ((spec_l2key.f k l0_0).bind fun t135 => (if t135 = true then (if a0_1 < 0 then (spec_CheckOk.j0 k true l0_0 a0_1 a0_2 a0_3 a0_4 a0_5) else (if a0_1 > 1000 then (spec_CheckOk.j0 k true l0_0 a0_1 a0_2 a0_3 a0_4 a0_5) else (if a0_2 < 1 then (spec_CheckOk.j0 k true l0_0 a0_1 a0_2 a0_3 a0_4 a0_5) else (if a0_2 > 5 then (spec_CheckOk.j0 k true l0_0 a0_1 a0_2 a0_3 a0_4 a0_5) else (if a0_3 < 0 then (spec_CheckOk.j0 k true l0_0 a0_1 a0_2 a0_3 a0_4 a0_5) else (if a0_3 > 2 then (spec_CheckOk.j0 k true l0_0 a0_1 a0_2 a0_3 a0_4 a0_5) else (if a0_4 < 0 then (spec_CheckOk.j0 k true l0_0 a0_1 a0_2 a0_3 a0_4 a0_5) else (if a0_4 > 1000 then (spec_CheckOk.j0 k true l0_0 a0_1 a0_2 a0_3 a0_4 a0_5) else (if a0_5 < 0 then (spec_CheckOk.j0 k true l0_0 a0_1 a0_2 a0_3 a0_4 a0_5) else (spec_CheckOk.j0 k (decide (a0_5 > a0_2)) l0_0 a0_1 a0_2 a0_3 a0_4 a0_5)))))))))) else (spec_CheckOk.j0 k true l0_0 a0_1 a0_2 a0_3 a0_4 a0_5))) = some r := h
 clear h; have HC2 := Aside0.mk H; clear H; go_enter Try.func19, Try.ntmps19
 go_upto_region 1 with (first | ((with_reducible refine gate_dst (N := 1) rfl ?_); refine box_event ?hg (N := 1) ?hd (cs := #[.slice A0_0 l0_0.length c0_0, .int .i64 a0_1, .int .i64 a0_2, .int .i64 a0_3, .int .i64 a0_4, .int .i64 a0_5]) (t := 47) ?hr ?_; (case hd => rfl); (case hg => rfl); (case hr => first | (go_simp; done) | (go_simp; rfl)); intro gb134 hg w3 hbox hb; have n_ := an (below_step (by exact bel0) hb) (an (hbox) (an ((by rw [hg]; exact (below_size (by exact bel0)) : w.heap.size ≤ gb134)) (an ((by rw [hg]; exact (below_size (by exact bel0)) : w.heap.size ≤ gb134)) (trivial)))); clear HB; obtain ⟨HB, BK134, GW134, GE134, -⟩ := n_; clear hb hbox hg))
 (try simp only [Act.put, List.setIfInBounds_toArray, List.set_cons_zero, List.set_cons_succ])
 go_cut [58] (fun v58 wc => ∃ (kq : Nat) (x58_1 : Bool), v58 = .bool x58_1 ∧ Aside0 (spec_CheckOk.j0 kq x58_1 l0_0 a0_1 a0_2 a0_3 a0_4 a0_5 = some r) ∧ Aside0 (kq ≤ k) ∧ Aside0 (wc.heap[gb134]? = some (.cells #[(.slice A0_0 l0_0.length c0_0), .int .i64 a0_1, .int .i64 a0_2, .int .i64 a0_3, .int .i64 a0_4, .int .i64 a0_5] 47 (0, 0))) ∧ Aside0 (Below w.heap.size w wc))
 case first =>
  have H := HC2.out; clear HC2; replace H := Option.bind_eq_some_iff.mp H; obtain ⟨t135, A40, H⟩ := H; have A4 := Aside0.mk A40; clear A40; obtain ⟨hcz5_0, hcz5_1, hcz5_2, hcz5_3, hcz5_4, hcz5_5⟩ := blkz6 BK134.out; have hfz5_0 := blkf BK134.out
  replace H := Aside0.mk H
  go_wp2_with (first | ((with_reducible refine gate_callee (f := 17) rfl ?_); refine goesL_ (some 5) rfl rfl Try.func17 (by kernel_rfl) rfl #[.slice A0_0 l0_0.length c0_0] rfl (by (try simp only [List.map_toArray, List.map_cons, List.map_nil]); first | done | rfl | (simp only [List.length_drop, List.length_take]; rfl)) ?_; (with_reducible refine (spec_l2key.calls k _ _ l0_0 t135 _ ?side1 ?side2 A4.out).mono ?_); (case side1 => repeat (first | exact (Kd.C_below HR0_0.out HB.out) | (with_reducible refine Kd.C_alloc ?_ _) | (with_reducible refine Kd.C_drewN ?_ _) | (with_reducible refine Kd.C_drew ?_))); (case side2 => exact HC0_0.out); rintro e w' ⟨rfl, ⟨nd, rfl⟩⟩; refine ⟨_, rfl, ?_⟩; refine Stop.out ?_))
  refine Stop.mk ?_
  replace H := H.out
  by_cases c6 : t135 = true
  ·subst c6; rw [if_pos rfl] at H
   by_cases c7 : a0_1 < 0
   ·rw [if_pos c7] at H; have c7b0 : decide (a0_1 < 0) = true := decide_eq_true c7; clear c7; (try simp only [c7b0])
    (first | rw [c7b0] | (simp only [i64_w, i32_w]; rw [c7b0]) | skip)
    have H' := Aside0.mk H
    clear H; obtain ⟨hcz8_0, hcz8_1, hcz8_2, hcz8_3, hcz8_4, hcz8_5⟩ := blkz6 BK134.out; have hfz8_0 := blkf BK134.out
    go_wp2
    go_meet
    case rel => exact ⟨_, (true), (by first | rfl | (simp; done) | (simp [*]; done)), H', ⟨by first | omega | exact Nat.le_refl _⟩, ⟨by exact blk_nw BK134.out⟩, ⟨by exact bel0⟩⟩
   ·rw [if_neg c7] at H; have c7b0 : decide (a0_1 < 0) = false := decide_eq_false c7; clear c7; (try simp only [c7b0])
    (first | rw [c7b0] | (simp only [i64_w, i32_w]; rw [c7b0]) | skip)
    by_cases c9 : a0_1 > 1000
    ·rw [if_pos c9] at H; have c9b0 : decide (1000 < a0_1) = true := decide_eq_true c9; clear c9; (try simp only [c9b0])
     have H' := Aside0.mk H
     clear H; obtain ⟨hcz10_0, hcz10_1, hcz10_2, hcz10_3, hcz10_4, hcz10_5⟩ := blkz6 BK134.out; have hfz10_0 := blkf BK134.out
     go_wp2
     go_meet
     case rel => exact ⟨_, (true), (by first | rfl | (simp; done) | (simp [*]; done)), H', ⟨by first | omega | exact Nat.le_refl _⟩, ⟨by exact blk_nw BK134.out⟩, ⟨by exact bel0⟩⟩
    ·rw [if_neg c9] at H; have c9b0 : decide (1000 < a0_1) = false := decide_eq_false c9; clear c9; (try simp only [c9b0])
     by_cases c11 : a0_2 < 1
     ·rw [if_pos c11] at H; have c11b0 : decide (a0_2 < 1) = true := decide_eq_true c11; clear c11; (try simp only [c11b0])
      have H' := Aside0.mk H
      clear H; obtain ⟨hcz12_0, hcz12_1, hcz12_2, hcz12_3, hcz12_4, hcz12_5⟩ := blkz6 BK134.out; have hfz12_0 := blkf BK134.out
      go_wp2
      go_meet
      case rel => exact ⟨_, (true), (by first | rfl | (simp; done) | (simp [*]; done)), H', ⟨by first | omega | exact Nat.le_refl _⟩, ⟨by exact blk_nw BK134.out⟩, ⟨by exact bel0⟩⟩
     ·rw [if_neg c11] at H; have c11b0 : decide (a0_2 < 1) = false := decide_eq_false c11; clear c11; (try simp only [c11b0])
      by_cases c13 : a0_2 > 5
      ·rw [if_pos c13] at H; have c13b0 : decide (5 < a0_2) = true := decide_eq_true c13; clear c13; (try simp only [c13b0])
       have H' := Aside0.mk H
       clear H; obtain ⟨hcz14_0, hcz14_1, hcz14_2, hcz14_3, hcz14_4, hcz14_5⟩ := blkz6 BK134.out; have hfz14_0 := blkf BK134.out
       go_wp2
       go_meet
       case rel => exact ⟨_, (true), (by first | rfl | (simp; done) | (simp [*]; done)), H', ⟨by first | omega | exact Nat.le_refl _⟩, ⟨by exact blk_nw BK134.out⟩, ⟨by exact bel0⟩⟩
      ·rw [if_neg c13] at H; have c13b0 : decide (5 < a0_2) = false := decide_eq_false c13; clear c13; (try simp only [c13b0])
       by_cases c15 : a0_3 < 0
       ·rw [if_pos c15] at H; have c15b0 : decide (a0_3 < 0) = true := decide_eq_true c15; clear c15; (try simp only [c15b0])
        have H' := Aside0.mk H
        clear H; obtain ⟨hcz16_0, hcz16_1, hcz16_2, hcz16_3, hcz16_4, hcz16_5⟩ := blkz6 BK134.out; have hfz16_0 := blkf BK134.out
        go_wp2
        go_meet
        case rel => exact ⟨_, (true), (by first | rfl | (simp; done) | (simp [*]; done)), H', ⟨by first | omega | exact Nat.le_refl _⟩, ⟨by exact blk_nw BK134.out⟩, ⟨by exact bel0⟩⟩
       ·rw [if_neg c15] at H; have c15b0 : decide (a0_3 < 0) = false := decide_eq_false c15; clear c15; (try simp only [c15b0])
        by_cases c17 : a0_3 > 2
        ·rw [if_pos c17] at H; have c17b0 : decide (2 < a0_3) = true := decide_eq_true c17; clear c17; (try simp only [c17b0])
         have H' := Aside0.mk H
         clear H; obtain ⟨hcz18_0, hcz18_1, hcz18_2, hcz18_3, hcz18_4, hcz18_5⟩ := blkz6 BK134.out; have hfz18_0 := blkf BK134.out
         go_wp2
         go_meet
         case rel => exact ⟨_, (true), (by first | rfl | (simp; done) | (simp [*]; done)), H', ⟨by first | omega | exact Nat.le_refl _⟩, ⟨by exact blk_nw BK134.out⟩, ⟨by exact bel0⟩⟩
        ·rw [if_neg c17] at H; have c17b0 : decide (2 < a0_3) = false := decide_eq_false c17; clear c17; (try simp only [c17b0])
         by_cases c19 : a0_4 < 0
         ·rw [if_pos c19] at H; have c19b0 : decide (a0_4 < 0) = true := decide_eq_true c19; clear c19; (try simp only [c19b0])
          have H' := Aside0.mk H
          clear H; obtain ⟨hcz20_0, hcz20_1, hcz20_2, hcz20_3, hcz20_4, hcz20_5⟩ := blkz6 BK134.out; have hfz20_0 := blkf BK134.out
          go_wp2
          go_meet
          case rel => exact ⟨_, (true), (by first | rfl | (simp; done) | (simp [*]; done)), H', ⟨by first | omega | exact Nat.le_refl _⟩, ⟨by exact blk_nw BK134.out⟩, ⟨by exact bel0⟩⟩
         ·rw [if_neg c19] at H; have c19b0 : decide (a0_4 < 0) = false := decide_eq_false c19; clear c19; (try simp only [c19b0])
          by_cases c21 : a0_4 > 1000
          ·rw [if_pos c21] at H; have c21b0 : decide (1000 < a0_4) = true := decide_eq_true c21; clear c21; (try simp only [c21b0])
           have H' := Aside0.mk H
           clear H; obtain ⟨hcz22_0, hcz22_1, hcz22_2, hcz22_3, hcz22_4, hcz22_5⟩ := blkz6 BK134.out; have hfz22_0 := blkf BK134.out
           go_wp2
           go_meet
           case rel => exact ⟨_, (true), (by first | rfl | (simp; done) | (simp [*]; done)), H', ⟨by first | omega | exact Nat.le_refl _⟩, ⟨by exact blk_nw BK134.out⟩, ⟨by exact bel0⟩⟩
          ·rw [if_neg c21] at H; have c21b0 : decide (1000 < a0_4) = false := decide_eq_false c21; clear c21; (try simp only [c21b0])
           by_cases c23 : a0_5 < 0
           ·rw [if_pos c23] at H; have c23b0 : decide (a0_5 < 0) = true := decide_eq_true c23; clear c23; (try simp only [c23b0])
            have H' := Aside0.mk H
            clear H; obtain ⟨hcz24_0, hcz24_1, hcz24_2, hcz24_3, hcz24_4, hcz24_5⟩ := blkz6 BK134.out; have hfz24_0 := blkf BK134.out
            go_wp2
            go_meet
            case rel => exact ⟨_, (true), (by first | rfl | (simp; done) | (simp [*]; done)), H', ⟨by first | omega | exact Nat.le_refl _⟩, ⟨by exact blk_nw BK134.out⟩, ⟨by exact bel0⟩⟩
           ·rw [if_neg c23] at H; have c23b0 : decide (a0_5 < 0) = false := decide_eq_false c23; clear c23; (try simp only [c23b0])
            have H' := Aside0.mk H
            clear H; obtain ⟨hcz25_0, hcz25_1, hcz25_2, hcz25_3, hcz25_4, hcz25_5⟩ := blkz6 BK134.out; have hfz25_0 := blkf BK134.out
            go_wp2
            go_meet
            case rel => exact ⟨_, (decide (a0_5 > a0_2)), (by first | rfl | (simp; done) | (simp [*]; done)), H', ⟨by first | omega | exact Nat.le_refl _⟩, ⟨by exact blk_nw BK134.out⟩, ⟨by exact bel0⟩⟩
  ·replace c6 := Bool.eq_false_iff.mpr c6
   subst c6
   rw [if_neg (show ¬ (false = true) by decide)] at H
   have H' := Aside0.mk H
   clear H
   go_wp2
   go_meet
   case rel => exact ⟨_, (true), (by first | rfl | (simp; done) | (simp [*]; done)), H', ⟨by first | omega | exact Nat.le_refl _⟩, ⟨by exact blk_nw BK134.out⟩, ⟨by exact bel0⟩⟩
 case rest =>
  clear HC2; try clear c1; try clear c2; try clear p2; try clear c6; try clear c7; try clear c7b0; try clear c9; try clear c9b0; try clear c11; try clear c11b0; try clear c13; try clear c13b0; try clear c15; try clear c15b0; try clear c17; try clear c17b0; try clear c19; try clear c19b0; try clear c21; try clear c21b0; try clear c23; try clear c23b0; try clear hcz10_0; try clear hcz10_1; try clear hcz10_2; try clear hcz10_3; try clear hcz10_4; try clear hcz10_5; try clear hcz12_0; try clear hcz12_1; try clear hcz12_2; try clear hcz12_3; try clear hcz12_4; try clear hcz12_5; try clear hcz14_0; try clear hcz14_1; try clear hcz14_2; try clear hcz14_3; try clear hcz14_4; try clear hcz14_5; try clear hcz16_0; try clear hcz16_1; try clear hcz16_2; try clear hcz16_3; try clear hcz16_4; try clear hcz16_5; try clear hcz18_0; try clear hcz18_1; try clear hcz18_2; try clear hcz18_3; try clear hcz18_4; try clear hcz18_5; try clear hcz20_0; try clear hcz20_1; try clear hcz20_2; try clear hcz20_3; try clear hcz20_4; try clear hcz20_5; try clear hcz22_0; try clear hcz22_1; try clear hcz22_2; try clear hcz22_3; try clear hcz22_4; try clear hcz22_5; try clear hcz24_0; try clear hcz24_1; try clear hcz24_2; try clear hcz24_3; try clear hcz24_4; try clear hcz24_5; try clear hcz25_0; try clear hcz25_1; try clear hcz25_2; try clear hcz25_3; try clear hcz25_4; try clear hcz25_5; try clear hcz5_0; try clear hcz5_1; try clear hcz5_2; try clear hcz5_3; try clear hcz5_4; try clear hcz5_5; try clear hcz8_0; try clear hcz8_1; try clear hcz8_2; try clear hcz8_3; try clear hcz8_4; try clear hcz8_5; try clear hfz10_0; try clear hfz10_1; try clear hfz10_2; try clear hfz10_3; try clear hfz10_4; try clear hfz10_5; try clear hfz12_0; try clear hfz12_1; try clear hfz12_2; try clear hfz12_3; try clear hfz12_4; try clear hfz12_5; try clear hfz14_0; try clear hfz14_1; try clear hfz14_2; try clear hfz14_3; try clear hfz14_4; try clear hfz14_5; try clear hfz16_0; try clear hfz16_1; try clear hfz16_2; try clear hfz16_3; try clear hfz16_4; try clear hfz16_5; try clear hfz18_0; try clear hfz18_1; try clear hfz18_2; try clear hfz18_3; try clear hfz18_4; try clear hfz18_5; try clear hfz20_0; try clear hfz20_1; try clear hfz20_2; try clear hfz20_3; try clear hfz20_4; try clear hfz20_5; try clear hfz22_0; try clear hfz22_1; try clear hfz22_2; try clear hfz22_3; try clear hfz22_4; try clear hfz22_5; try clear hfz24_0; try clear hfz24_1; try clear hfz24_2; try clear hfz24_3; try clear hfz24_4; try clear hfz24_5; try clear hfz25_0; try clear hfz25_1; try clear hfz25_2; try clear hfz25_3; try clear hfz25_4; try clear hfz25_5; try clear hfz5_0; try clear hfz5_1; try clear hfz5_2; try clear hfz5_3; try clear hfz5_4; try clear hfz5_5; try clear hfz8_0; try clear hfz8_1; try clear hfz8_2; try clear hfz8_3; try clear hfz8_4; try clear hfz8_5
  obtain ⟨kq, x58_1, rfl, HA, HJ1, BK134, HB⟩ := hcut
  cases kq with
  | zero => exact absurd HA.out (by simp [spec_CheckOk.j0])
  | succ kj1 =>
   have H := HA.out; clear HA
   simp only [spec_CheckOk.j0] at H
   by_cases c26 : x58_1 = true
   ·subst c26; rw [if_pos rfl] at H
    obtain rfl := Option.some.inj H
    go_wp2
    go_ret
    exact ⟨by first | rfl | (simp [errW_none, errW_some] <;> rfl) | (simp [*, errW_none, errW_some] <;> rfl), by exact bel0⟩
   ·replace c26 := Bool.eq_false_iff.mpr c26
    subst c26
    rw [if_neg (show ¬ (false = true) by decide)] at H
    by_cases c27 : a0_1 > 0
    ·rw [if_pos c27] at H; have c27b0 : decide (0 < a0_1) = true := decide_eq_true c27; clear c27; (try simp only [c27b0])
     by_cases c28 : a0_4 ≥ a0_1
     ·rw [if_pos c28] at H; have c28b0 : decide (a0_1 ≤ a0_4) = true := decide_eq_true c28; clear c28; (try simp only [c28b0])
      by_cases c29 : a0_3 = 2
      ·rw [if_pos c29] at H; have c29b0 : (a0_3 == 2) = true := beq_iff_eq.mpr c29; have c29b1 : (a0_3 != 2) = false := bne_eq_false_iff_eq.mpr c29; clear c29
       by_cases c30 : a0_3 = 0
       ·rw [if_pos c30] at H; have c30b0 : (a0_3 == 0) = true := beq_iff_eq.mpr c30; have c30b1 : (a0_3 != 0) = false := bne_eq_false_iff_eq.mpr c30; clear c30
        obtain rfl := Option.some.inj H
        obtain ⟨hcz31_0, hcz31_1, hcz31_2, hcz31_3, hcz31_4, hcz31_5⟩ := blkz6 BK134.out; have hfz31_0 := blkf BK134.out
        go_wp2
        go_ret
        exact ⟨by first | rfl | (simp [errW_none, errW_some] <;> rfl) | (simp [*, errW_none, errW_some] <;> rfl), by exact bel0⟩
       ·rw [if_neg c30] at H; have c30b0 : (a0_3 == 0) = false := beq_eq_false_iff_ne.mpr c30; have c30b1 : (a0_3 != 0) = true := bne_iff_ne.mpr c30
        obtain rfl := Option.some.inj H
        obtain ⟨hcz32_0, hcz32_1, hcz32_2, hcz32_3, hcz32_4, hcz32_5⟩ := blkz6 BK134.out; have hfz32_0 := blkf BK134.out
        go_wp2
        go_ret
        exact ⟨by first | rfl | (simp [errW_none, errW_some] <;> rfl) | (simp [*, errW_none, errW_some] <;> rfl), by exact bel0⟩
      ·rw [if_neg c29] at H; have c29b0 : (a0_3 == 2) = false := beq_eq_false_iff_ne.mpr c29; have c29b1 : (a0_3 != 2) = true := bne_iff_ne.mpr c29
       obtain rfl := Option.some.inj H
       obtain ⟨hcz33_0, hcz33_1, hcz33_2, hcz33_3, hcz33_4, hcz33_5⟩ := blkz6 BK134.out; have hfz33_0 := blkf BK134.out
       go_wp2
       go_ret
       exact ⟨by first | rfl | (simp [errW_none, errW_some] <;> rfl) | (simp [*, errW_none, errW_some] <;> rfl), by exact bel0⟩
     ·rw [if_neg c28] at H; have c28b0 : decide (a0_1 ≤ a0_4) = false := decide_eq_false c28; clear c28; (try simp only [c28b0])
      by_cases c34 : a0_3 = 0
      ·rw [if_pos c34] at H; have c34b0 : (a0_3 == 0) = true := beq_iff_eq.mpr c34; have c34b1 : (a0_3 != 0) = false := bne_eq_false_iff_eq.mpr c34; clear c34
       obtain rfl := Option.some.inj H
       obtain ⟨hcz35_0, hcz35_1, hcz35_2, hcz35_3, hcz35_4, hcz35_5⟩ := blkz6 BK134.out; have hfz35_0 := blkf BK134.out
       go_wp2
       go_ret
       exact ⟨by first | rfl | (simp [errW_none, errW_some] <;> rfl) | (simp [*, errW_none, errW_some] <;> rfl), by exact bel0⟩
      ·rw [if_neg c34] at H; have c34b0 : (a0_3 == 0) = false := beq_eq_false_iff_ne.mpr c34; have c34b1 : (a0_3 != 0) = true := bne_iff_ne.mpr c34
       obtain rfl := Option.some.inj H
       obtain ⟨hcz36_0, hcz36_1, hcz36_2, hcz36_3, hcz36_4, hcz36_5⟩ := blkz6 BK134.out; have hfz36_0 := blkf BK134.out
       go_wp2
       go_ret
       exact ⟨by first | rfl | (simp [errW_none, errW_some] <;> rfl) | (simp [*, errW_none, errW_some] <;> rfl), by exact bel0⟩
    ·rw [if_neg c27] at H; have c27b0 : decide (0 < a0_1) = false := decide_eq_false c27; clear c27; (try simp only [c27b0])
     by_cases c37 : a0_3 = 0
     ·rw [if_pos c37] at H; have c37b0 : (a0_3 == 0) = true := beq_iff_eq.mpr c37; have c37b1 : (a0_3 != 0) = false := bne_eq_false_iff_eq.mpr c37; clear c37
      obtain rfl := Option.some.inj H
      obtain ⟨hcz38_0, hcz38_1, hcz38_2, hcz38_3, hcz38_4, hcz38_5⟩ := blkz6 BK134.out; have hfz38_0 := blkf BK134.out
      go_wp2
      go_ret
      exact ⟨by first | rfl | (simp [errW_none, errW_some] <;> rfl) | (simp [*, errW_none, errW_some] <;> rfl), by exact bel0⟩
     ·rw [if_neg c37] at H; have c37b0 : (a0_3 == 0) = false := beq_eq_false_iff_ne.mpr c37; have c37b1 : (a0_3 != 0) = true := bne_iff_ne.mpr c37
      obtain rfl := Option.some.inj H
      obtain ⟨hcz39_0, hcz39_1, hcz39_2, hcz39_3, hcz39_4, hcz39_5⟩ := blkz6 BK134.out; have hfz39_0 := blkf BK134.out
      go_wp2
      go_ret
      exact ⟨by first | rfl | (simp [errW_none, errW_some] <;> rfl) | (simp [*, errW_none, errW_some] <;> rfl), by exact bel0⟩

end Go.Proofs.Ytkeplodbjldaiaa.XFnExactLocalOk
