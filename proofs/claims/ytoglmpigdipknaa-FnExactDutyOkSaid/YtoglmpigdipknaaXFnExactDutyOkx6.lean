-- Written by this session's own program (xprint.py) over the kit's print.
import Derived.Test.YtoglmpigdipknaaXFnExactDutyOkx0
import Derived.Test.YtoglmpigdipknaaXFnExactDutyOkx1
import Derived.Test.YtoglmpigdipknaaXFnExactDutyOkx3
import Derived.Test.YtoglmpigdipknaaXFnExactDutyOkx5
namespace Go.Proofs.Ytoglmpigdipknaa.XFnExactDutyOk
open Go.RowKit Go.Proofs.YtoglmpigdipknaaW.PrintWords Go.Proofs.YtoglmpigdipknaaW.PrintLast Go.Proofs.YtoglmpigdipknaaW.PrintMore
attribute [local go_sem] max2_int min2_int max_two min_two max_three min_three max_four min_four   -- for this text's walks alone
set_option linter.unusedVariables false
set_option linter.unusedSimpArgs false

-- NOT PRINTED: function 101 (impl_Timer_101)

/-! ### impl_DutyOk: function 61 -/
def impl_DutyOk_c.p (ttl now : Int) (x : S123) : Bool := decide (wrap64 (x.f1 - now) > ttl)
theorem impl_DutyOk_c.rdget {l : List (S123)} {i : Nat} (h : i < l.length) : rd_T123 l (i : Int) = l[i] := by
 unfold rd_T123; rw [Int.toNat_natCast, List.getD_eq_getElem?_getD, List.getElem?_eq_getElem h]; rfl
set_option maxHeartbeats 8000000 in
set_option maxRecDepth 100000 in
theorem impl_DutyOk_c.clo (ttl now : Int) (cs : Value) (x : S123) (g0_ : Nat) (w : World) (q0_ : w.heap[g0_]? = some (.cells #[.int .i64 ttl, .int .i64 now, cs] 37 (0, 0))) :
  Calls Try.prog 102 #[.agg #[.int .i64 x.f0, .int .i64 x.f1], .pointer (some ⟨g0_, 0, none⟩)] w fun e w' => e = .returned (.bool (impl_DutyOk_c.p ttl now x)) ∧ Below w.heap.size w w' := by
 have hu123 := Try.underlying123
 have hu37 := Try.underlying37
 have hu35 := Try.underlying35
 have hca := fun o => (blkz3 (blk_alloc q0_ o)).1
 have hcb := fun o => (blkz3 (blk_alloc q0_ o)).2.1
 go_enter Try.func102, Try.ntmps102
 go_wp2
 go_ret
 exact ⟨rfl, by repeat (first | (with_reducible exact Below.refl _ _) | (with_reducible apply below_alloc))⟩
set_option maxHeartbeats 8000000 in
set_option maxRecDepth 100000 in
theorem impl_DutyOk_c.idx (ttl now : Int) (cs : Value) (g0_ : Nat) (A0 : Option Addr) (c0 : Nat) (l0 : List (S123)) (w : World) (hr0 : Kd.C k123 w A0 l0.length l0) (hc0 : l0.length ≤ c0) (hl : l0.length < 9223372036854775807) (q0_ : w.heap[g0_]? = some (.cells #[.int .i64 ttl, .int .i64 now, cs] 37 (0, 0))) :
  Calls Try.prog 126 #[.slice A0 l0.length c0, .func (.func 102) #[] #[.pointer (some ⟨g0_, 0, none⟩)]] w fun e w' => e = .returned (.int .i64 (ixOf (impl_DutyOk_c.p ttl now) l0 0)) ∧ Below w.heap.size w w' := by
 have hu123 := Try.underlying123
 have HR0 := Aside0.mk hr0
 have HQ0 := Aside0.mk (fun (W : World) (h : Below w.heap.size w W) => (h.block g0_ (blk_lt q0_)).trans q0_)
 have HB0 := Aside0.mk (Below.refl w.heap.size w)
 have HH := Aside0.mk (show ixOf (impl_DutyOk_c.p ttl now) l0 0 = ixOf (impl_DutyOk_c.p ttl now) (l0.drop 0) 0 by rw [List.drop_zero])
 clear hr0 hc0 q0_; go_enter Try.func126, Try.ntmps126
 go_wp2
 go_loopg [8] (l0.length + 1) (fun kx s8 wr => ∃ i : Nat, s8 = .int .i64 i ∧ i ≤ l0.length ∧ Aside0 (l0.length < kx + i) ∧ Aside0 (ixOf (impl_DutyOk_c.p ttl now) l0 0 = ixOf (impl_DutyOk_c.p ttl now) (l0.drop i) i) ∧ Aside0 (Below w.heap.size w wr))
 case atStart => exact ⟨0, rfl, Nat.zero_le _, ⟨by omega⟩, HH, HB0⟩
 case round =>
  clear HH HB0
  obtain ⟨i, rfl, hi, HK, HX, HB⟩ := hrel
  cases gk with
  | zero => exact absurd HK.out (by omega)
  | succ k1 =>
   by_cases hlt : i < l0.length
   ·obtain ⟨ad, ead, hx0, hx1⟩ := at_T123 HR0.out (i : Int) (by omega) (by omega)
    cases ead
    replace hx0 := pw_cell_below HB.out hx0
    replace hx1 := pw_cell_below HB.out hx1
    rw [Int.toNat_natCast] at hx0 hx1
    cases he : impl_DutyOk_c.p ttl now (rd_T123 l0 (i : Int)) with
    | true =>
     have HE := Aside0.mk (HX.out.trans (ixOf_at (impl_DutyOk_c.p ttl now) l0 i i hlt (by rw [← impl_DutyOk_c.rdget hlt]; exact he)))
     go_wp2_with (go_at_call 102; refine (impl_DutyOk_c.clo ttl now cs (rd_T123 l0 (i : Int)) g0_ _ ?sd0).mono ?_; (case sd0 => exact HQ0.out _ HB.out); rintro e w2 ⟨rfl, hb2⟩)
     go_ret
     exact ⟨by rw [HE.out]; rfl, below_step HB.out hb2⟩
    | false =>
     have HE := Aside0.mk (HX.out.trans (ixOf_next (impl_DutyOk_c.p ttl now) l0 i i hlt (by rw [← impl_DutyOk_c.rdget hlt]; exact he)))
     go_wp2_with (go_at_call 102; refine (impl_DutyOk_c.clo ttl now cs (rd_T123 l0 (i : Int)) g0_ _ ?sd0).mono ?_; (case sd0 => exact HQ0.out _ HB.out); rintro e w2 ⟨rfl, hb2⟩)
     go_roundg k1
     case measure => omega
     case rel => exact ⟨i + 1, by go_num, by omega, ⟨by have := HK.out; omega⟩, HE, ⟨below_step HB.out hb2⟩⟩
   ·have HE := Aside0.mk (HX.out.trans (by rw [List.drop_eq_nil_of_le (by omega)]; rfl : ixOf (impl_DutyOk_c.p ttl now) (l0.drop i) i = -1))
    go_wp2
    go_ret
    exact ⟨by rw [HE.out]; rfl, HB.out⟩
set_option maxHeartbeats 8000000 in
set_option maxRecDepth 100000 in
theorem impl_DutyOk_c.cf (ttl now : Int) (cs : Value) (g0_ : Nat) (A0 : Option Addr) (c0 : Nat) (l0 : List (S123)) (w : World) (hr0 : Kd.C k123 w A0 l0.length l0) (hc0 : l0.length ≤ c0) (hl : l0.length < 9223372036854775807) (q0_ : w.heap[g0_]? = some (.cells #[.int .i64 ttl, .int .i64 now, cs] 37 (0, 0))) :
  Calls Try.prog 101 #[.slice A0 l0.length c0, .func (.func 102) #[] #[.pointer (some ⟨g0_, 0, none⟩)]] w fun e w' => e = .returned (.bool (decide (ixOf (impl_DutyOk_c.p ttl now) l0 0 ≥ 0))) ∧ Below w.heap.size w w' := by
 have HR0 := Aside0.mk hr0; have HC0 := Aside0.mk hc0; have HL0 := Aside0.mk hl
 have HQ := Aside0.mk (q0_)
 clear hr0 hc0 hl q0_; go_enter Try.func101, Try.ntmps101
 go_wp2_with (go_at_call 126; refine (impl_DutyOk_c.idx ttl now cs g0_ _ _ l0 _ HR0.out HC0.out HL0.out HQ.out).mono ?_; rintro e w2 ⟨rfl, hb2⟩)
 go_ret
 exact ⟨rfl, hb2⟩

def impl_DutyOk.f (k : Nat) (a0_0 a0_1 : Int) (l0_2 : List S123) : Option Bool := (impl_within.f a0_0 1 1000).bind fun t1 => (if t1 = true then ((impl_WheelOk.f k a0_1 l0_2).bind fun t2 => (if t2 = true then (if (l0_2.length : Int) > 8 then (some false) else (some (!decide (ixOf (impl_DutyOk_c.p a0_0 a0_1) l0_2 0 ≥ 0)))) else (some false))) else (some false))
theorem impl_DutyOk.mono : ∀ a0 a1 a2 k, LeO (impl_DutyOk.f k a0 a1 a2) (impl_DutyOk.f (k + 1) a0 a1 a2) := by
 intro a0 a1 a2 k
 unfold impl_DutyOk.f
 refine LeO.bind (LeO.refl _) (fun t1 => ?_)
 refine LeO.ite ?_ (LeO.refl _)
 exact LeO.bind (impl_WheelOk.mono _ _ _) (fun _ => LeO.refl _)
set_option maxHeartbeats 8000000 in
set_option maxRecDepth 100000 in
theorem impl_DutyOk.calls (k : Nat) (a0_0 a0_1 : Int) (A0_2 : Option Addr) (c0_2 : Nat) (l0_2 : List S123) (r : Bool) (w : World) (hr0_2 : Kd.C k123 w A0_2 l0_2.length l0_2) (hc0_2 : l0_2.length ≤ c0_2) (h : impl_DutyOk.f k a0_0 a0_1 l0_2 = some r) :
  Calls Try.prog 61 #[.agg #[.int .i64 a0_0, .int .i64 a0_1, .slice A0_2 l0_2.length c0_2]] w fun e w' => e = .returned (.bool r) ∧ Below w.heap.size w w' := by
 have hu37 := Try.underlying37
 have hu35 := Try.underlying35
 unfold impl_DutyOk.f at h
 obtain ⟨t1, h1, h⟩ := Option.bind_eq_some_iff.mp h
 have HR := Aside0.mk hr0_2; have HC := Aside0.mk hc0_2; have HV := Aside0.mk h1; clear hr0_2 hc0_2 h1
 cases t1 with
 | false =>
  obtain rfl : false = r := by simpa using h
  clear h; go_enter Try.func61, Try.ntmps61
  go_wp2_with (first | ((with_reducible refine gate_dst (N := 1) rfl ?_); refine box_event ?hg (N := 1) ?hd (cs := #[.int .i64 a0_0, .int .i64 a0_1, .slice A0_2 l0_2.length c0_2]) (t := 37) ?hr ?_; (case hd => rfl); (case hg => rfl); (case hr => first | (go_simp; done) | (go_simp; rfl)); intro gb hg wb hbox hb; have HX := Aside0.mk hbox; have HB := Aside0.mk hb; replace HR := Aside0.mk (Kd.C_below HR.out hb); clear hb hbox hg; obtain ⟨hcz0, hcz1, hcz2⟩ := blkz3 HX.out; have hfz := blkf HX.out) | (go_at_call 72; refine (impl_within.calls a0_0 1 1000 _ _ HV.out).mono ?_; rintro e w' ⟨rfl, ⟨nd, rfl⟩⟩))
  go_ret
  exact ⟨rfl, bel0⟩
 | true =>
  rw [if_pos rfl] at h
  obtain ⟨t2, h2, h⟩ := Option.bind_eq_some_iff.mp h
  have HV2 := Aside0.mk h2; clear h2
  cases t2 with
  | false =>
   obtain rfl : false = r := by simpa using h
   clear h; go_enter Try.func61, Try.ntmps61
   go_wp2_with (first | ((with_reducible refine gate_dst (N := 1) rfl ?_); refine box_event ?hg (N := 1) ?hd (cs := #[.int .i64 a0_0, .int .i64 a0_1, .slice A0_2 l0_2.length c0_2]) (t := 37) ?hr ?_; (case hd => rfl); (case hg => rfl); (case hr => first | (go_simp; done) | (go_simp; rfl)); intro gb hg wb hbox hb; have HX := Aside0.mk hbox; have HB := Aside0.mk hb; replace HR := Aside0.mk (Kd.C_below HR.out hb); clear hb hbox hg; obtain ⟨hcz0, hcz1, hcz2⟩ := blkz3 HX.out; have hfz := blkf HX.out) | (go_at_call 72; refine (impl_within.calls a0_0 1 1000 _ _ HV.out).mono ?_; rintro e w' ⟨rfl, ⟨nd, rfl⟩⟩) | (go_at_call 100; refine (impl_WheelOk.calls k a0_1 _ _ l0_2 _ _ ?s1 HC.out HV2.out).mono ?_; (case s1 => repeat (first | exact HR.out | (with_reducible refine Kd.C_alloc ?_ _) | (with_reducible refine Kd.C_drewN ?_ _) | (with_reducible refine Kd.C_drew ?_))); rintro e w2 ⟨rfl, hb2⟩; have n_ := an (blk_below (blk_nw HX.out) hb2) (an (below_step (by exact bel0) hb2) (an (Kd.C_below (by repeat (first | exact HR.out | (with_reducible refine Kd.C_alloc ?_ _) | (with_reducible refine Kd.C_drewN ?_ _) | (with_reducible refine Kd.C_drew ?_))) hb2) trivial)); clear HX HB HR hcz0 hcz1 hcz2 hfz; obtain ⟨HX, HB, HR, -⟩ := n_; clear hb2; obtain ⟨hcz0, hcz1, hcz2⟩ := blkz3 HX.out; have hfz := blkf HX.out))
   go_ret
   exact ⟨rfl, bel0⟩
  | true =>
   rw [if_pos rfl] at h
   by_cases c : (l0_2.length : Int) > 8
   ·rw [if_pos c] at h
    obtain rfl := Option.some.inj h
    have cb : decide ((l0_2.length : Int) > 8) = true := decide_eq_true c
    clear h c; go_enter Try.func61, Try.ntmps61
    go_wp2_with (first | ((with_reducible refine gate_dst (N := 1) rfl ?_); refine box_event ?hg (N := 1) ?hd (cs := #[.int .i64 a0_0, .int .i64 a0_1, .slice A0_2 l0_2.length c0_2]) (t := 37) ?hr ?_; (case hd => rfl); (case hg => rfl); (case hr => first | (go_simp; done) | (go_simp; rfl)); intro gb hg wb hbox hb; have HX := Aside0.mk hbox; have HB := Aside0.mk hb; replace HR := Aside0.mk (Kd.C_below HR.out hb); clear hb hbox hg; obtain ⟨hcz0, hcz1, hcz2⟩ := blkz3 HX.out; have hfz := blkf HX.out) | (go_at_call 72; refine (impl_within.calls a0_0 1 1000 _ _ HV.out).mono ?_; rintro e w' ⟨rfl, ⟨nd, rfl⟩⟩) | (go_at_call 100; refine (impl_WheelOk.calls k a0_1 _ _ l0_2 _ _ ?s1 HC.out HV2.out).mono ?_; (case s1 => repeat (first | exact HR.out | (with_reducible refine Kd.C_alloc ?_ _) | (with_reducible refine Kd.C_drewN ?_ _) | (with_reducible refine Kd.C_drew ?_))); rintro e w2 ⟨rfl, hb2⟩; have n_ := an (blk_below (blk_nw HX.out) hb2) (an (below_step (by exact bel0) hb2) (an (Kd.C_below (by repeat (first | exact HR.out | (with_reducible refine Kd.C_alloc ?_ _) | (with_reducible refine Kd.C_drewN ?_ _) | (with_reducible refine Kd.C_drew ?_))) hb2) trivial)); clear HX HB HR hcz0 hcz1 hcz2 hfz; obtain ⟨HX, HB, HR, -⟩ := n_; clear hb2; obtain ⟨hcz0, hcz1, hcz2⟩ := blkz3 HX.out; have hfz := blkf HX.out))
    go_ret
    exact ⟨rfl, bel0⟩
   ·rw [if_neg c] at h
    obtain rfl := Option.some.inj h
    have cb : decide ((l0_2.length : Int) > 8) = false := decide_eq_false c
    have HLN := Aside0.mk (show l0_2.length < 9223372036854775807 by omega)
    clear h c; go_enter Try.func61, Try.ntmps61
    go_wp2_with (first | ((with_reducible refine gate_dst (N := 1) rfl ?_); refine box_event ?hg (N := 1) ?hd (cs := #[.int .i64 a0_0, .int .i64 a0_1, .slice A0_2 l0_2.length c0_2]) (t := 37) ?hr ?_; (case hd => rfl); (case hg => rfl); (case hr => first | (go_simp; done) | (go_simp; rfl)); intro gb hg wb hbox hb; have HX := Aside0.mk hbox; have HB := Aside0.mk hb; replace HR := Aside0.mk (Kd.C_below HR.out hb); clear hb hbox hg; obtain ⟨hcz0, hcz1, hcz2⟩ := blkz3 HX.out; have hfz := blkf HX.out) | (go_at_call 72; refine (impl_within.calls a0_0 1 1000 _ _ HV.out).mono ?_; rintro e w' ⟨rfl, ⟨nd, rfl⟩⟩) | (go_at_call 100; refine (impl_WheelOk.calls k a0_1 _ _ l0_2 _ _ ?s1 HC.out HV2.out).mono ?_; (case s1 => repeat (first | exact HR.out | (with_reducible refine Kd.C_alloc ?_ _) | (with_reducible refine Kd.C_drewN ?_ _) | (with_reducible refine Kd.C_drew ?_))); rintro e w2 ⟨rfl, hb2⟩; have n_ := an (blk_below (blk_nw HX.out) hb2) (an (below_step (by exact bel0) hb2) (an (Kd.C_below (by repeat (first | exact HR.out | (with_reducible refine Kd.C_alloc ?_ _) | (with_reducible refine Kd.C_drewN ?_ _) | (with_reducible refine Kd.C_drew ?_))) hb2) trivial)); clear HX HB HR hcz0 hcz1 hcz2 hfz; obtain ⟨HX, HB, HR, -⟩ := n_; clear hb2; obtain ⟨hcz0, hcz1, hcz2⟩ := blkz3 HX.out; have hfz := blkf HX.out) | (go_at_call 101; refine (impl_DutyOk_c.cf a0_0 a0_1 (.slice A0_2 l0_2.length c0_2) _ _ _ l0_2 _ ?s1 HC.out HLN.out ?s2).mono ?_; (case s1 => repeat (first | exact HR.out | (with_reducible refine Kd.C_alloc ?_ _) | (with_reducible refine Kd.C_drewN ?_ _) | (with_reducible refine Kd.C_drew ?_))); (case s2 => exact blk_nw HX.out); rintro e w3 ⟨rfl, hb3⟩; replace HB := Aside0.mk (below_step (by exact bel0) hb3)))
    go_ret
    exact ⟨rfl, bel0⟩

/-! ### laws_FnExactDutyOk: function 13 -/
def laws_FnExactDutyOk.f (k : Nat) (a0_0 : Int) (a0_1 : Int) (l0_2 : List (S147)) : Option (Bool) := (laws_szDuty.f a0_0 a0_1 l0_2 1048576).bind fun t182 => (if t182 < 0 then (some true) else ((laws_toDuty.f k a0_0 a0_1 l0_2).bind fun bt183 => ((spec_DutyOk.f k bt183.1 bt183.2.1 bt183.2.2).bind fun t188 => ((laws_toDuty.f k a0_0 a0_1 l0_2).bind fun bt189 => ((impl_DutyOk.f k bt189.1 bt189.2.1 bt189.2.2).bind fun t195 => (if (t195 != t188) = true then (some false) else ((laws_toDuty.f k a0_0 a0_1 l0_2).bind fun bt196 => ((laws_eqDuty.f k bt189.1 bt189.2.1 bt189.2.2 bt196.1 bt196.2.1 bt196.2.2).bind fun t201 => (if t201 = true then (some true) else (some false))))))))))
theorem laws_FnExactDutyOk.mono : ∀ a0 a1 a2 k, LeO (laws_FnExactDutyOk.f k a0 a1 a2) (laws_FnExactDutyOk.f (k + 1) a0 a1 a2) := by
 intro a0 a1 a2 k
 unfold laws_FnExactDutyOk.f
 repeat' first
   | (with_reducible exact impl_DutyOk.mono _ _ _ _)
   | (with_reducible exact laws_eqDuty.mono _ _ _ _ _ _ _)
   | (with_reducible exact laws_toDuty.mono _ _ _ _)
   | (with_reducible exact spec_DutyOk.mono _ _ _ _)
   | (with_reducible exact LeO.refl _)
   | (with_reducible exact LeO.none _)
   | (with_reducible refine LeO.ite ?_ ?_)
   | (with_reducible refine LeO.bind ?_ (fun _ => ?_))
   | exact impl_DutyOk.mono _ _ _ _
   | exact laws_eqDuty.mono _ _ _ _ _ _ _
   | exact laws_toDuty.mono _ _ _ _
   | exact spec_DutyOk.mono _ _ _ _
   | exact LeO.none _
   | refine LeO.ite ?_ ?_
   | refine LeO.bind ?_ (fun _ => ?_)
set_option maxHeartbeats 8000000 in
set_option maxRecDepth 100000 in
theorem laws_FnExactDutyOk.calls (k : Nat) (a0_0 : Int) (a0_1 : Int) (A0_2 : Option Addr) (c0_2 : Nat) (l0_2 : List (S147)) (r : Bool) (w : World) (hr0_2 : Kd.C k147 w A0_2 l0_2.length l0_2) (hc0_2 : l0_2.length ≤ c0_2) (h : laws_FnExactDutyOk.f k a0_0 a0_1 l0_2 = some r) :
  Calls Try.prog 13 #[.agg #[.int .i64 a0_0, .int .i64 a0_1, .slice A0_2 l0_2.length c0_2]] w fun e w' => e = .returned (.bool r) ∧ Below w.heap.size w w' := by
 have hu90 := Try.underlying90
 have hu37 := Try.underlying37
 have HR0_2 := Aside0.mk hr0_2; have HC0_2 := Aside0.mk hc0_2; clear hr0_2 hc0_2
 have HB := Aside0.mk (Below.refl w.heap.size w)
 have H : ((laws_szDuty.f a0_0 a0_1 l0_2 1048576).bind fun t182 => (if t182 < 0 then (some true) else ((laws_toDuty.f k a0_0 a0_1 l0_2).bind fun bt183 => ((spec_DutyOk.f k bt183.1 bt183.2.1 bt183.2.2).bind fun t188 => ((laws_toDuty.f k a0_0 a0_1 l0_2).bind fun bt189 => ((impl_DutyOk.f k bt189.1 bt189.2.1 bt189.2.2).bind fun t195 => (if (t195 != t188) = true then (some false) else ((laws_toDuty.f k a0_0 a0_1 l0_2).bind fun bt196 => ((laws_eqDuty.f k bt189.1 bt189.2.1 bt189.2.2 bt196.1 bt196.2.1 bt196.2.2).bind fun t201 => (if t201 = true then (some true) else (some false))))))))))) = some r := h
 clear h; replace H := Option.bind_eq_some_iff.mp H; obtain ⟨t182, A20, H⟩ := H; have A2 := Aside0.mk A20; clear A20; go_enter Try.func13, Try.ntmps13
 replace H := Aside0.mk H
 go_wp2_with (first | ((with_reducible refine gate_dst (N := 1) rfl ?_); refine box_event ?hg (N := 1) ?hd (cs := #[.int .i64 a0_0, .int .i64 a0_1, .slice A0_2 l0_2.length c0_2]) (t := 90) ?hr ?_; (case hd => rfl); (case hg => rfl); (case hr => first | (go_simp; done) | (go_simp; rfl)); intro gb181 hg w3 hbox hb; have n_ := an (below_step (by exact bel0) hb) (an (hbox) (an ((by rw [hg]; exact (below_size (by exact bel0)) : w.heap.size ≤ gb181)) (an ((by rw [hg]; exact (below_size (by exact bel0)) : w.heap.size ≤ gb181)) (trivial)))); clear HB; obtain ⟨HB, BK181, GW181, GE181, -⟩ := n_; clear hb hbox hg; obtain ⟨hcz4_0, hcz4_1, hcz4_2⟩ := blkz3 BK181.out; have hfz4_0 := blkf BK181.out) | ((with_reducible refine gate_callee (f := 58) rfl ?_); refine goesL_ (some 9) rfl rfl Try.func58 (by kernel_rfl) rfl #[.agg #[.int .i64 a0_0, .int .i64 a0_1, .slice A0_2 l0_2.length c0_2], .int .i64 1048576] rfl (by (try simp only [List.map_toArray, List.map_cons, List.map_nil]); first | done | rfl | (simp only [List.length_drop, List.length_take]; rfl)) ?_; (with_reducible refine (laws_szDuty.calls a0_0 a0_1 _ _ l0_2 1048576 t182 _ ?side1 ?side2 A2.out).mono ?_); (case side1 => repeat (first | exact (Kd.C_below HR0_2.out HB.out) | (with_reducible refine Kd.C_alloc ?_ _) | (with_reducible refine Kd.C_drewN ?_ _) | (with_reducible refine Kd.C_drew ?_))); (case side2 => exact HC0_2.out); rintro e w5 ⟨rfl, hb⟩; refine ⟨_, rfl, ?_⟩; have n_ := an (blk_below (blk_nw BK181.out) hb) (an (below_step (by exact bel0) hb) (trivial)); clear BK181 HB; obtain ⟨BK181, HB, -⟩ := n_; (try clear hb); (try clear hb2); (try clear hk); (try clear hi); refine Stop.out ?_))
 refine Stop.mk ?_
 replace H := H.out
 by_cases c6 : t182 < 0
 ·rw [if_pos c6] at H; have c6b0 : decide (t182 < 0) = true := decide_eq_true c6; clear c6; (try simp only [c6b0])
  obtain rfl := Option.some.inj H
  go_wp2
  go_ret
  exact ⟨by first | rfl | (simp [errW_none, errW_some] <;> rfl) | (simp [*, errW_none, errW_some] <;> rfl), by exact bel0⟩
 ·rw [if_neg c6] at H; have c6b0 : decide (t182 < 0) = false := decide_eq_false c6; clear c6; (try simp only [c6b0]); replace H := Option.bind_eq_some_iff.mp H
  obtain ⟨⟨t183, t184, t185⟩, A70, H⟩ := H
  replace H : ((spec_DutyOk.f k t183 t184 t185).bind fun t188 => ((laws_toDuty.f k a0_0 a0_1 l0_2).bind fun bt189 => ((impl_DutyOk.f k bt189.1 bt189.2.1 bt189.2.2).bind fun t195 => (if (t195 != t188) = true then (some false) else ((laws_toDuty.f k a0_0 a0_1 l0_2).bind fun bt196 => ((laws_eqDuty.f k bt189.1 bt189.2.1 bt189.2.2 bt196.1 bt196.2.1 bt196.2.2).bind fun t201 => (if t201 = true then (some true) else (some false)))))))) = some r := H
  have A7 := Aside0.mk A70; clear A70; replace H := Option.bind_eq_some_iff.mp H; obtain ⟨t188, A80, H⟩ := H; have A8 := Aside0.mk A80; clear A80; replace H := Option.bind_eq_some_iff.mp H
  obtain ⟨⟨t189, t190, t191⟩, A90, H⟩ := H
  replace H : ((impl_DutyOk.f k t189 t190 t191).bind fun t195 => (if (t195 != t188) = true then (some false) else ((laws_toDuty.f k a0_0 a0_1 l0_2).bind fun bt196 => ((laws_eqDuty.f k t189 t190 t191 bt196.1 bt196.2.1 bt196.2.2).bind fun t201 => (if t201 = true then (some true) else (some false)))))) = some r := H
  have A9 := Aside0.mk A90; clear A90; replace H := Option.bind_eq_some_iff.mp H; obtain ⟨t195, A100, H⟩ := H; have A10 := Aside0.mk A100; clear A100; obtain ⟨hcz11_0, hcz11_1, hcz11_2⟩ := blkz3 BK181.out; have hfz11_0 := blkf BK181.out
  replace H := Aside0.mk H
  go_wp2_with (first | ((with_reducible refine gate_callee (f := 60) rfl ?_); refine goesL_ (some 13) rfl rfl Try.func60 (by kernel_rfl) rfl #[.agg #[.int .i64 a0_0, .int .i64 a0_1, .slice A0_2 l0_2.length c0_2]] rfl (by (try simp only [List.map_toArray, List.map_cons, List.map_nil]); first | done | rfl | (simp only [List.length_drop, List.length_take]; rfl)) ?_; (with_reducible refine (laws_toDuty.calls k a0_0 a0_1 _ _ l0_2 t183 t184 t185 _ ?side1 ?side2 A7.out).mono ?_); (case side1 => repeat (first | exact (Kd.C_below HR0_2.out HB.out) | (with_reducible refine Kd.C_alloc ?_ _) | (with_reducible refine Kd.C_drewN ?_ _) | (with_reducible refine Kd.C_drew ?_))); (case side2 => exact HC0_2.out); rintro e w12 ⟨v186, rfl, ho0, hb⟩; refine ⟨_, rfl, ?_⟩; have n_ := an (Kd.R_lower ho0 (below_size (by exact bel0))) (an (blk_below (blk_nw BK181.out) hb) (an (below_step (by exact bel0) hb) (trivial))); clear BK181 HB; obtain ⟨HO187, BK181, HB, -⟩ := n_; (try clear hb); (try clear hb2); (try clear hk); (try clear hi); (try clear ho0); obtain ⟨Ao13, co13, eo13⟩ := Kd.R_slice HO187.out; subst eo13) | ((with_reducible refine gate_callee (f := 59) rfl ?_); refine goesL_ (some 14) rfl rfl Try.func59 (by kernel_rfl) rfl #[.agg #[.int .i64 t183, .int .i64 t184, .slice Ao13 t185.length co13]] rfl (by (try simp only [List.map_toArray, List.map_cons, List.map_nil]); first | done | rfl | (simp only [List.length_drop, List.length_take]; rfl)) ?_; (with_reducible refine (spec_DutyOk.calls k t183 t184 _ _ t185 t188 _ ?side1 ?side2 A8.out).mono ?_); (case side1 => repeat (first | exact (Kd.R_reads' HO187.out).2.2 | (with_reducible refine Kd.C_alloc ?_ _) | (with_reducible refine Kd.C_drewN ?_ _) | (with_reducible refine Kd.C_drew ?_))); (case side2 => exact (Kd.R_reads' HO187.out).2.1); rintro e w14 ⟨rfl, hb⟩; refine ⟨_, rfl, ?_⟩; have n_ := an (Kd.R_below (by exact Kd.R_nw HO187.out) hb) (an (blk_below (blk_nw BK181.out) hb) (an (below_step (by exact bel0) hb) (trivial))); clear HO187 BK181 HB; obtain ⟨HO187, BK181, HB, -⟩ := n_; (try clear hb); (try clear hb2); (try clear hk); (try clear hi); obtain ⟨hcz15_0, hcz15_1, hcz15_2⟩ := blkz3 BK181.out; have hfz15_0 := blkf BK181.out) | ((with_reducible refine gate_callee (f := 60) rfl ?_); refine goesL_ (some 16) rfl rfl Try.func60 (by kernel_rfl) rfl #[.agg #[.int .i64 a0_0, .int .i64 a0_1, .slice A0_2 l0_2.length c0_2]] rfl (by (try simp only [List.map_toArray, List.map_cons, List.map_nil]); first | done | rfl | (simp only [List.length_drop, List.length_take]; rfl)) ?_; (with_reducible refine (laws_toDuty.calls k a0_0 a0_1 _ _ l0_2 t189 t190 t191 _ ?side1 ?side2 A9.out).mono ?_); (case side1 => repeat (first | exact (Kd.C_below HR0_2.out HB.out) | (with_reducible refine Kd.C_alloc ?_ _) | (with_reducible refine Kd.C_drewN ?_ _) | (with_reducible refine Kd.C_drew ?_))); (case side2 => exact HC0_2.out); rintro e w16 ⟨v192, rfl, ho0, hb⟩; refine ⟨_, rfl, ?_⟩; have n_ := an (Kd.R_elder' (by exact Kd.R_nw HO187.out) (Kd.R_base ho0) hb) (an (Kd.R_lower (Kd.R_new' ho0 (Kd.R_lt (by exact Kd.R_nw HO187.out))) (below_size (by exact bel0))) (an (blk_below (blk_nw BK181.out) hb) (an (below_step (by exact bel0) hb) (trivial)))); clear HO187 BK181 HB; obtain ⟨HO187, HO193, BK181, HB, -⟩ := n_; (try clear hb); (try clear hb2); (try clear hk); (try clear hi); (try clear ho0)) | ((with_reducible refine gate_dst (N := 5) rfl ?_); refine box_event ?hg (N := 5) ?hd (cs := #[.int .i64 0, .int .i64 0, .slice none 0 0]) (t := 37) ?hr ?_; (case hd => rfl); (case hg => rfl); (case hr => first | (go_simp; done) | (go_simp; rfl)); intro gb194 hg w17 hbox hb; have n_ := an (Kd.R_below (by exact Kd.R_nw HO187.out) hb) (an (Kd.R_below (by exact Kd.R_nw HO193.out) hb) (an (blk_below (blk_nw BK181.out) hb) (an (below_step (by exact bel0) hb) (an (hbox) (an ((by rw [hg]; exact (below_size (by exact bel0)) : w.heap.size ≤ gb194)) (an ((by rw [hg]; exact (below_size (by exact bel0)) : w.heap.size ≤ gb194)) (an ((by rw [hg]; exact Nat.ne_of_lt (blk_lt (blk_nw BK181.out)) : gb181 ≠ gb194)) (an ((by rw [hg]; exact Nat.ne_of_gt (blk_lt (blk_nw BK181.out)) : gb194 ≠ gb181)) (trivial))))))))); clear HO187 HO193 BK181 HB; obtain ⟨HO187, HO193, BK181, HB, BK194, GW194, GE194, NB181_194, NB194_181, -⟩ := n_; clear hb hbox hg; have hnb18 := NB194_181.out; have hnc18 := NB181_194.out; obtain ⟨hcz19_0, hcz19_1, hcz19_2⟩ := blkz3 BK194.out; have hfz19_0 := blkf BK194.out; obtain ⟨Ao20, co20, eo20⟩ := Kd.R_slice HO193.out; subst eo20) | ((with_reducible refine gate_callee (f := 61) rfl ?_); refine goesL_ (some 18) rfl rfl Try.func61 (by kernel_rfl) rfl #[.agg #[.int .i64 t189, .int .i64 t190, .slice Ao20 t191.length co20]] rfl (by (try simp only [List.map_toArray, List.map_cons, List.map_nil]); first | done | rfl | (simp only [List.length_drop, List.length_take]; rfl)) ?_; (with_reducible refine (impl_DutyOk.calls k t189 t190 _ _ t191 t195 _ ?side1 ?side2 A10.out).mono ?_); (case side1 => refine (Kd.R_reads' (e := 123) (base := w.heap.size) (ok := fun k_ => (True ∧ some k_ ≠ (.slice Ao13 t185.length co13 : Value).ownBlock)) (n := t191.length) (c := co20) ?_).2.2; exact (by exact (Kd.R_farN HO193.out BK194.out))); (case side2 => exact (Kd.R_reads' HO193.out).2.1); rintro e w21 ⟨rfl, hb⟩; refine ⟨_, rfl, ?_⟩; have n_ := an (Kd.R_below (by exact (Kd.R_farN HO187.out BK194.out)) hb) (an (Kd.R_below (by exact (Kd.R_farN HO193.out BK194.out)) hb) (an (blk_below (blk_kb BK181.out NB181_194.out) hb) (an (blk_below (g := gb194) (o := .cells #[.int .i64 t189, .int .i64 t190, .slice Ao20 t191.length co20] 37 (0, 0)) (by (with_reducible repeat (first | refine blk_drewN ?_ _ | refine blk_drew ?_ | refine blk_alloc ?_ _)); exact blk_fill3 BK194.out) hb) (an (below_step (by exact bel0) hb) (trivial))))); clear HO187 HO193 BK181 BK194 HB; obtain ⟨HO187, HO193, BK181, BK194, HB, -⟩ := n_; (try clear hb); (try clear hb2); (try clear hk); (try clear hi); refine Stop.out ?_))
  refine Stop.mk ?_
  replace H := H.out
  by_cases c22 : (t195 != t188) = true
  ·rw [if_pos c22] at H
   have c22b0 : (t195 != t188) = true := c22
   (try (have c22b1 : decide (t195 = t188) = false := by simpa using c22))
   (try (have c22b2 : (t195 == t188) = false := by simpa using c22))
   (try (have c22b3 : ¬ (t195 = t188) := by simpa using c22))
   clear c22
   obtain rfl := Option.some.inj H
   go_wp2
   go_ret
   exact ⟨by first | rfl | (simp [errW_none, errW_some] <;> rfl) | (simp [*, errW_none, errW_some] <;> rfl), by exact bel0⟩
  ·rw [if_neg c22] at H
   have c22b0 : (t195 != t188) = false := by simpa using c22
   (try (have c22b1 : decide (t195 = t188) = true := by simpa using c22))
   (try (have c22b2 : (t195 == t188) = true := by simpa using c22))
   clear c22; replace H := Option.bind_eq_some_iff.mp H
   obtain ⟨⟨t196, t197, t198⟩, A230, H⟩ := H
   replace H : ((laws_eqDuty.f k t189 t190 t191 t196 t197 t198).bind fun t201 => (if t201 = true then (some true) else (some false))) = some r := H
   have A23 := Aside0.mk A230; clear A230; replace H := Option.bind_eq_some_iff.mp H; obtain ⟨t201, A240, H⟩ := H; have A24 := Aside0.mk A240; clear A240
   replace H := Aside0.mk H
   try go_wp2
   have n_ := an (Kd.R_drew HO187.out) (an (Kd.R_drew HO193.out) (an (blk_drew BK181.out) (an (blk_drew BK194.out) (an (below_drew1 HB.out) (trivial)))))
   clear HO187 HO193 BK181 BK194 HB
   obtain ⟨HO187, HO193, BK181, BK194, HB, -⟩ := n_
   refine start_ (n := 5) (S := fun w' => w'.cell? ⟨gb194, 0, none⟩ = some (.int .i64 t189) ∧ w'.cell? ⟨gb194, 1, none⟩ = some (.int .i64 t190) ∧ w'.cell? ⟨gb194, 2, none⟩ = some (.slice Ao20 t191.length co20) ∧ w'.cell? ⟨gb181, 0, none⟩ = some (.int .i64 a0_0) ∧ w'.cell? ⟨gb181, 1, none⟩ = some (.int .i64 a0_1) ∧ w'.cell? ⟨gb181, 2, none⟩ = some (.slice A0_2 l0_2.length c0_2)) (ds := []) #[false, false, false, false, false] (by kernel_rfl) rfl rfl ⟨(blk_cell BK194.out 0).trans rfl, (blk_cell BK194.out 1).trans rfl, (blk_cell BK194.out 2).trans rfl, (blk_cell BK181.out 0).trans rfl, (blk_cell BK181.out 1).trans rfl, (blk_cell BK181.out 2).trans rfl⟩ (fun hHeld => ?_)
   generalize w21.drew = w25 at HO187 HO193 BK181 BK194 HB hHeld ⊢
   refine take_ (i := 0) (N := some 22) (v := ?_) (a' := ?_) #[true, false, false, false, false] rfl rfl (by kernel_rfl) (fun _ _ _ h => h) (Or.inl ⟨by rfl, ?_⟩) hHeld ?_ ?_
   rotate_left
   ·rintro w' ⟨s0, s1, s2, s3, s4, s5⟩
    go_simp
    with_reducible rfl
   rotate_left
   ·simp only [Act.put, List.setIfInBounds_toArray, List.set_cons_zero, List.set_cons_succ, i64_w, i32_w]
    rfl
   refine take_ (i := 1) (N := some 23) (v := ?_) (a' := ?_) #[true, true, false, false, false] rfl rfl (by kernel_rfl) (fun _ _ _ h => h) (Or.inl ⟨by rfl, ?_⟩) hHeld ?_ ?_
   rotate_left
   ·rintro w' ⟨s0, s1, s2, s3, s4, s5⟩
    go_simp
    with_reducible rfl
   rotate_left
   ·simp only [Act.put, List.setIfInBounds_toArray, List.set_cons_zero, List.set_cons_succ, i64_w, i32_w]
    rfl
   refine one_ (i := 2) (N := some 24) #[true, true, true, false, false] rfl rfl (by kernel_rfl) (by decide) (fun K hK => ?_)
   refine goes_ Try.func60 (by kernel_rfl) rfl #[.agg #[.int .i64 a0_0, .int .i64 a0_1, .slice A0_2 l0_2.length c0_2]] (by rfl) rfl rfl (by (try simp only [List.map_toArray, List.map_cons, List.map_nil]); first | done | rfl | (simp only [List.length_drop, List.length_take]; rfl)) ?_
   with_reducible refine (laws_toDuty.calls k a0_0 a0_1 _ _ l0_2 t196 t197 t198 _ ?side1 ?side2 A23.out).mono ?_
   (case side1 => repeat (first | exact (Kd.C_below HR0_2.out HB.out) | (with_reducible refine Kd.C_alloc ?_ _) | (with_reducible refine Kd.C_drewN ?_ _) | (with_reducible refine Kd.C_drew ?_)))
   (case side2 => exact HC0_2.out)
   rintro e w26 ⟨v199, rfl, ho0, hb⟩
   refine ⟨_, rfl, ?_⟩
   have n_ := an (Kd.R_elder' (by exact Kd.R_nw HO187.out) (Kd.R_base ho0) hb) (an (Kd.R_elder' (by exact Kd.R_nw HO193.out) (Kd.R_base ho0) hb) (an (Kd.R_lower (Kd.R_new' (Kd.R_new' ho0 (Kd.R_lt (by exact Kd.R_nw HO187.out))) (Kd.R_lt (by exact Kd.R_nw HO193.out))) (below_size (by exact bel0))) (an (blk_below (blk_nw BK181.out) hb) (an (blk_below (blk_nw BK194.out) hb) (an (below_step (by exact bel0) hb) (trivial))))))
   clear HO187 HO193 BK181 BK194 HB
   obtain ⟨HO187, HO193, HO200, BK181, BK194, HB, -⟩ := n_
   (try clear hb); (try clear hb2); (try clear hk); (try clear hi); (try clear ho0)
   obtain ⟨Ao27, co27, eo27⟩ := Kd.R_slice HO200.out
   (first | subst eo27 | (injection eo27 with f1_ f2_ f3_; have f4_ := f1_.symm; have f5_ := f3_.symm; clear f1_ f2_ f3_; subst f4_; subst f5_))
   refine hK.out _ _ ⟨(blk_cell BK194.out 0).trans rfl, (blk_cell BK194.out 1).trans rfl, (blk_cell BK194.out 2).trans rfl, (blk_cell BK181.out 0).trans rfl, (blk_cell BK181.out 1).trans rfl, (blk_cell BK181.out 2).trans rfl⟩ (fun hHeld => ?_)
   clear hK K
   refine norm_ (a' := ?_) ?_ ?_
   rotate_left
   ·show Act.put _ (some 24) _ = _
    simp only [Act.put, List.setIfInBounds_toArray, List.set_cons_zero, List.set_cons_succ, i64_w, i32_w]
    rfl
   refine one_ (i := 3) (N := some 25) #[true, true, true, true, false] rfl rfl (by kernel_rfl) (by decide) (fun K hK => ?_)
   refine goes_ Try.func25 (by kernel_rfl) rfl #[.agg #[.int .i64 t189, .int .i64 t190, .slice Ao20 t191.length co20], .agg #[.int .i64 t196, .int .i64 t197, .slice Ao27 t198.length co27]] (by rfl) rfl rfl (by (try simp only [List.map_toArray, List.map_cons, List.map_nil]); first | done | rfl | (simp only [List.length_drop, List.length_take]; rfl)) ?_
   with_reducible refine (laws_eqDuty.calls k t189 t190 _ _ t191 t196 t197 _ _ t198 t201 _ ?side1 ?side2 ?side3 ?side4 A24.out).mono ?_
   (case side1 => repeat (first | exact (Kd.R_reads' HO193.out).2.2 | (with_reducible refine Kd.C_alloc ?_ _) | (with_reducible refine Kd.C_drewN ?_ _) | (with_reducible refine Kd.C_drew ?_)))
   (case side2 => exact (Kd.R_reads' HO193.out).2.1)
   (case side3 => repeat (first | exact (Kd.R_reads' HO200.out).2.2 | (with_reducible refine Kd.C_alloc ?_ _) | (with_reducible refine Kd.C_drewN ?_ _) | (with_reducible refine Kd.C_drew ?_)))
   (case side4 => exact (Kd.R_reads' HO200.out).2.1)
   rintro e w28 ⟨rfl, hb⟩
   refine ⟨_, rfl, ?_⟩
   have n_ := an (Kd.R_below (by exact Kd.R_nw HO187.out) hb) (an (Kd.R_below (by exact Kd.R_nw HO193.out) hb) (an (Kd.R_below (by exact Kd.R_nw HO200.out) hb) (an (blk_below (blk_nw BK181.out) hb) (an (blk_below (blk_nw BK194.out) hb) (an (below_step (by exact bel0) hb) (trivial))))))
   clear HO187 HO193 HO200 BK181 BK194 HB
   obtain ⟨HO187, HO193, HO200, BK181, BK194, HB, -⟩ := n_
   (try clear hb); (try clear hb2); (try clear hk); (try clear hi)
   refine hK.out _ _ ⟨(blk_cell BK194.out 0).trans rfl, (blk_cell BK194.out 1).trans rfl, (blk_cell BK194.out 2).trans rfl, (blk_cell BK181.out 0).trans rfl, (blk_cell BK181.out 1).trans rfl, (blk_cell BK181.out 2).trans rfl⟩ (fun hHeld => ?_)
   clear hK K
   refine norm_ (a' := ?_) ?_ ?_
   rotate_left
   ·show Act.put _ (some 25) _ = _
    simp only [Act.put, List.setIfInBounds_toArray, List.set_cons_zero, List.set_cons_succ, i64_w, i32_w]
    rfl
   refine pure_ (i := 4) (N := some 26) (v := ?_) (a' := ?_) #[true, true, true, true, true] rfl rfl (by kernel_rfl) (fun _ _ _ h => h) (Or.inl ⟨by rfl, ?_⟩) ?_ ?_
   rotate_left
   ·intro w'
    go_simp
    with_reducible rfl
   rotate_left
   ·simp only [Act.put, List.setIfInBounds_toArray, List.set_cons_zero, List.set_cons_succ, i64_w, i32_w]
    rfl
   refine done_ (by kernel_rfl) ?_
   replace H := H.out
   by_cases c29 : t201 = true
   ·subst c29; rw [if_pos rfl] at H
    obtain rfl := Option.some.inj H
    go_wp2
    go_ret
    exact ⟨by first | rfl | (simp [errW_none, errW_some] <;> rfl) | (simp [*, errW_none, errW_some] <;> rfl), by exact bel0⟩
   ·replace c29 := Bool.eq_false_iff.mpr c29
    subst c29
    rw [if_neg (show ¬ (false = true) by decide)] at H
    obtain rfl := Option.some.inj H
    go_wp2
    go_ret
    exact ⟨by first | rfl | (simp [errW_none, errW_some] <;> rfl) | (simp [*, errW_none, errW_some] <;> rfl), by exact bel0⟩

end Go.Proofs.Ytoglmpigdipknaa.XFnExactDutyOk
