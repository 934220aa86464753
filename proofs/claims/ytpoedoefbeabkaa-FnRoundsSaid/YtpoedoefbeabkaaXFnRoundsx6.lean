-- Written by this session's own program (xprint.py) over the kit's print.
import Derived.Test.YtpoedoefbeabkaaXFnRoundsx0
import Derived.Test.YtpoedoefbeabkaaXFnRoundsx1
import Derived.Test.YtpoedoefbeabkaaXFnRoundsx5
namespace Go.Proofs.Ytpoedoefbeabkaa.XFnRounds
open Go.RowKit Go.Proofs.YtpoedoefbeabkaaW.PrintWords Go.Proofs.YtpoedoefbeabkaaW.PrintLast Go.Proofs.YtpoedoefbeabkaaW.PrintMore
attribute [local go_sem] max2_int min2_int max_two min_two max_three min_three max_four min_four   -- for this text's walks alone
set_option linter.unusedVariables false
set_option linter.unusedSimpArgs false

/-! ### spec_l10bent: function 19 -/
def spec_l10bent.f (k : Nat) (s0_0 : List Int) (s0_1 : Int) (s0_2 : Int) : Option (Int × (List (S40)) × Int × Int) := (spec_l10table.f k s0_0 s0_1 s0_2).bind fun bt252 => ((spec_l1Once.f s0_0 bt252.2.2.1 bt252.2.2.2 7).bind fun bt259 => (if bt259.1 = true then ((spec_l1Below.f s0_0 bt259.2.1 bt259.2.2 5).bind fun bt262 => (if bt262.1 = 0 then ((spec_l1PickInt.f s0_0 bt262.2.1 bt262.2.2 (([(-1), 11, 12] : List Int))).bind fun bt268 => (some (bt268.1, bt252.2.1, bt268.2.1, bt268.2.2))) else (if bt262.1 = 1 then ((spec_l10member.f s0_0 bt262.2.1 bt262.2.2).bind fun bt271 => (if bt252.2.1.length < 5864062014805 then (some (bt252.1, (bt252.2.1 ++ [(⟨bt271.1, bt271.2.1, bt271.2.2.1⟩ : S40)]), bt271.2.2.2.1, bt271.2.2.2.2)) else (none))) else (if bt262.1 = 2 then ((spec_l1PickInt.f s0_0 bt262.2.1 bt262.2.2 (([(-1), 1, 4] : List Int))).bind fun bt282 => (if 0 < (bt252.2.1.length : Int) then (some (bt252.1, (bt252.2.1.set (0 : Int).toNat (⟨(rd_T40 bt252.2.1 0).f0, bt282.1, (rd_T40 bt252.2.1 0).f2⟩ : S40)), bt282.2.1, bt282.2.2)) else (none))) else (if bt262.1 = 3 then ((spec_l1PickInt.f s0_0 bt262.2.1 bt262.2.2 (([(-1), 1000, 1001] : List Int))).bind fun bt289 => (if 0 < (bt252.2.1.length : Int) then (some (bt252.1, (bt252.2.1.set (0 : Int).toNat (⟨(rd_T40 bt252.2.1 0).f0, (rd_T40 bt252.2.1 0).f1, bt289.1⟩ : S40)), bt289.2.1, bt289.2.2)) else (none))) else (if 1 ≤ (bt252.2.1.length : Int) then (some (bt252.1, (bt252.2.1.drop (1 : Int).toNat), bt262.2.1, bt262.2.2)) else (none))))))) else (some (bt252.1, bt252.2.1, bt259.2.1, bt259.2.2))))
theorem spec_l10bent.mono : ∀ a0 a1 a2 k, LeO (spec_l10bent.f k a0 a1 a2) (spec_l10bent.f (k + 1) a0 a1 a2) := by
 intro a0 a1 a2 k
 unfold spec_l10bent.f
 repeat' first
   | (with_reducible exact spec_l10table.mono _ _ _ _)
   | (with_reducible exact LeO.refl _)
   | (with_reducible exact LeO.none _)
   | (with_reducible refine LeO.ite ?_ ?_)
   | (with_reducible refine LeO.bind ?_ (fun _ => ?_))
   | exact spec_l10table.mono _ _ _ _
   | exact LeO.none _
   | refine LeO.ite ?_ ?_
   | refine LeO.bind ?_ (fun _ => ?_)
def spec_l10bent.T9 : Bool × List (List Nat × List Nat) := (true, [([], []), ([0], [0]), ([], []), ([2], [2]), ([3], [3]), ([1, 4, 3], [1, 4]), ([0, 1, 2, 3, 4, 5], []), ([6, 5, 5, 0, 1, 2, 3, 4, 5], [5, 6])])
def spec_l10bent.B9 : List Nat := [0, 1, 0, 4, 12, 31, 63, 127]
theorem spec_l10bent.tab9 : rtab .any (opsOf Try.f19 9) = spec_l10bent.T9 := by kernel_rfl
theorem spec_l10bent.bits9 : waitsOk spec_l10bent.T9.2 spec_l10bent.B9 = true := by kernel_rfl
def spec_l10bent.T11 : Bool × List (List Nat × List Nat) := (true, [([], []), ([0], [0]), ([], []), ([], []), ([2, 3], [2, 3]), ([1, 0, 1, 2, 3, 4], [1]), ([5, 0, 1, 2, 3, 4], [5]), ([6, 4, 4, 0, 1, 2, 3, 4], [4, 6])])
def spec_l10bent.B11 : List Nat := [0, 1, 0, 0, 12, 31, 63, 127]
theorem spec_l10bent.tab11 : rtab .any (opsOf Try.f19 11) = spec_l10bent.T11 := by kernel_rfl
theorem spec_l10bent.bits11 : waitsOk spec_l10bent.T11.2 spec_l10bent.B11 = true := by kernel_rfl
def spec_l10bent.T13 : Bool × List (List Nat × List Nat) := (true, [([], []), ([0], [0]), ([], []), ([], []), ([2, 3], [2, 3]), ([1, 0, 1, 2, 3, 4], [1]), ([5, 0, 1, 2, 3, 4], [5]), ([6, 4, 4, 0, 1, 2, 3, 4], [4, 6])])
def spec_l10bent.B13 : List Nat := [0, 1, 0, 0, 12, 31, 63, 127]
theorem spec_l10bent.tab13 : rtab .any (opsOf Try.f19 13) = spec_l10bent.T13 := by kernel_rfl
theorem spec_l10bent.bits13 : waitsOk spec_l10bent.T13.2 spec_l10bent.B13 = true := by kernel_rfl
set_option maxHeartbeats 8000000 in
set_option maxRecDepth 100000 in
theorem spec_l10bent.calls (k : Nat) (g : Nat) (s0_0 : List Int) (s0_1 : Int) (s0_2 : Int) (r1 : Int) (r2 : List (S40)) (r3 : Int) (r4 : Int) (w0 w : World) (hI : IsS62 w0 w g s0_0 s0_1 s0_2) (hB : Below w0.heap.size w0 w) (h : spec_l10bent.f k s0_0 s0_1 s0_2 = some (r1, r2, r3, r4)) :
  Calls Try.prog 19 #[.pointer (some ⟨g, 0, none⟩)] w fun e w' => ∃ v1_ : Value, e = .returned (.agg #[.int .i64 r1, v1_]) ∧ Kd.Q k40 40 w' w.heap.size (fun _ => True) v1_ r2 ∧ IsS62 w0 w' g s0_0 r3 r4 ∧ Below w0.heap.size w0 w' ∧ KeepBut w w' g none := by
 have hu28 := Try.underlying28
 have HI0 := Aside0.mk hI
 have HK := Aside0.mk (KeepBut.refl w g none)
 have HL := Aside0.mk hB.size
 clear hI
 have HW0 := Aside0.mk hB.size
 have HB := Aside0.mk hB; clear hB
 have H : ((spec_l10table.f k s0_0 s0_1 s0_2).bind fun bt252 => ((spec_l1Once.f s0_0 bt252.2.2.1 bt252.2.2.2 7).bind fun bt259 => (if bt259.1 = true then ((spec_l1Below.f s0_0 bt259.2.1 bt259.2.2 5).bind fun bt262 => (if bt262.1 = 0 then ((spec_l1PickInt.f s0_0 bt262.2.1 bt262.2.2 (([(-1), 11, 12] : List Int))).bind fun bt268 => (some (bt268.1, bt252.2.1, bt268.2.1, bt268.2.2))) else (if bt262.1 = 1 then ((spec_l10member.f s0_0 bt262.2.1 bt262.2.2).bind fun bt271 => (if bt252.2.1.length < 5864062014805 then (some (bt252.1, (bt252.2.1 ++ [(⟨bt271.1, bt271.2.1, bt271.2.2.1⟩ : S40)]), bt271.2.2.2.1, bt271.2.2.2.2)) else (none))) else (if bt262.1 = 2 then ((spec_l1PickInt.f s0_0 bt262.2.1 bt262.2.2 (([(-1), 1, 4] : List Int))).bind fun bt282 => (if 0 < (bt252.2.1.length : Int) then (some (bt252.1, (bt252.2.1.set (0 : Int).toNat (⟨(rd_T40 bt252.2.1 0).f0, bt282.1, (rd_T40 bt252.2.1 0).f2⟩ : S40)), bt282.2.1, bt282.2.2)) else (none))) else (if bt262.1 = 3 then ((spec_l1PickInt.f s0_0 bt262.2.1 bt262.2.2 (([(-1), 1000, 1001] : List Int))).bind fun bt289 => (if 0 < (bt252.2.1.length : Int) then (some (bt252.1, (bt252.2.1.set (0 : Int).toNat (⟨(rd_T40 bt252.2.1 0).f0, (rd_T40 bt252.2.1 0).f1, bt289.1⟩ : S40)), bt289.2.1, bt289.2.2)) else (none))) else (if 1 ≤ (bt252.2.1.length : Int) then (some (bt252.1, (bt252.2.1.drop (1 : Int).toNat), bt262.2.1, bt262.2.2)) else (none))))))) else (some (bt252.1, bt252.2.1, bt259.2.1, bt259.2.2))))) = some (r1, r2, r3, r4) := h
 clear h; replace H := Option.bind_eq_some_iff.mp H
 obtain ⟨⟨t252, t253, t256, t257⟩, A20, H⟩ := H
 replace H : ((spec_l1Once.f s0_0 t256 t257 7).bind fun bt259 => (if bt259.1 = true then ((spec_l1Below.f s0_0 bt259.2.1 bt259.2.2 5).bind fun bt262 => (if bt262.1 = 0 then ((spec_l1PickInt.f s0_0 bt262.2.1 bt262.2.2 (([(-1), 11, 12] : List Int))).bind fun bt268 => (some (bt268.1, t253, bt268.2.1, bt268.2.2))) else (if bt262.1 = 1 then ((spec_l10member.f s0_0 bt262.2.1 bt262.2.2).bind fun bt271 => (if t253.length < 5864062014805 then (some (t252, (t253 ++ [(⟨bt271.1, bt271.2.1, bt271.2.2.1⟩ : S40)]), bt271.2.2.2.1, bt271.2.2.2.2)) else (none))) else (if bt262.1 = 2 then ((spec_l1PickInt.f s0_0 bt262.2.1 bt262.2.2 (([(-1), 1, 4] : List Int))).bind fun bt282 => (if 0 < (t253.length : Int) then (some (t252, (t253.set (0 : Int).toNat (⟨(rd_T40 t253 0).f0, bt282.1, (rd_T40 t253 0).f2⟩ : S40)), bt282.2.1, bt282.2.2)) else (none))) else (if bt262.1 = 3 then ((spec_l1PickInt.f s0_0 bt262.2.1 bt262.2.2 (([(-1), 1000, 1001] : List Int))).bind fun bt289 => (if 0 < (t253.length : Int) then (some (t252, (t253.set (0 : Int).toNat (⟨(rd_T40 t253 0).f0, (rd_T40 t253 0).f1, bt289.1⟩ : S40)), bt289.2.1, bt289.2.2)) else (none))) else (if 1 ≤ (t253.length : Int) then (some (t252, (t253.drop (1 : Int).toNat), bt262.2.1, bt262.2.2)) else (none))))))) else (some (t252, t253, bt259.2.1, bt259.2.2)))) = some (r1, r2, r3, r4) := H
 have A2 := Aside0.mk A20; clear A20; replace H := Option.bind_eq_some_iff.mp H
 obtain ⟨⟨t259, t260, t261⟩, A30, H⟩ := H
 replace H : (if t259 = true then ((spec_l1Below.f s0_0 t260 t261 5).bind fun bt262 => (if bt262.1 = 0 then ((spec_l1PickInt.f s0_0 bt262.2.1 bt262.2.2 (([(-1), 11, 12] : List Int))).bind fun bt268 => (some (bt268.1, t253, bt268.2.1, bt268.2.2))) else (if bt262.1 = 1 then ((spec_l10member.f s0_0 bt262.2.1 bt262.2.2).bind fun bt271 => (if t253.length < 5864062014805 then (some (t252, (t253 ++ [(⟨bt271.1, bt271.2.1, bt271.2.2.1⟩ : S40)]), bt271.2.2.2.1, bt271.2.2.2.2)) else (none))) else (if bt262.1 = 2 then ((spec_l1PickInt.f s0_0 bt262.2.1 bt262.2.2 (([(-1), 1, 4] : List Int))).bind fun bt282 => (if 0 < (t253.length : Int) then (some (t252, (t253.set (0 : Int).toNat (⟨(rd_T40 t253 0).f0, bt282.1, (rd_T40 t253 0).f2⟩ : S40)), bt282.2.1, bt282.2.2)) else (none))) else (if bt262.1 = 3 then ((spec_l1PickInt.f s0_0 bt262.2.1 bt262.2.2 (([(-1), 1000, 1001] : List Int))).bind fun bt289 => (if 0 < (t253.length : Int) then (some (t252, (t253.set (0 : Int).toNat (⟨(rd_T40 t253 0).f0, (rd_T40 t253 0).f1, bt289.1⟩ : S40)), bt289.2.1, bt289.2.2)) else (none))) else (if 1 ≤ (t253.length : Int) then (some (t252, (t253.drop (1 : Int).toNat), bt262.2.1, bt262.2.2)) else (none))))))) else (some (t252, t253, t260, t261))) = some (r1, r2, r3, r4) := H
 have A3 := Aside0.mk A30; clear A30; go_enter Try.func19, Try.ntmps19
 replace H := Aside0.mk H
 go_wp2_with (first | ((with_reducible refine gate_dst (N := 2) rfl ?_); refine box_event ?hg (N := 2) ?hd (cs := #[.int .i64 0, .slice none 0 0]) (t := 28) ?hr ?_; (case hd => rfl); (case hg => rfl); (case hr => first | (go_simp; done) | (go_simp; rfl)); intro gb251 hg w4 hbox hb; have n_ := an (IsS62.below (by repeat (first | (with_reducible first | exact HI0.out | apply IsS62.alloc | apply IsS62.drewN | apply IsS62.drew | apply IsS62.set_1 | apply IsS62.set_2) | exact HI0.out)) hb) (an (KeepBut.trans (by repeat (first | (with_reducible first | exact HK.out | apply KeepBut.set_ | apply keep_drewN | apply keep_drew | apply keep_alloc) | exact HK.out)) (KeepBut.of_below hb g none) (.inl rfl)) (an (below_step (by repeat (first | (with_reducible first | exact HB.out | apply below_alloc | apply pw_below_drewN | apply below_drew1 | refine below_set ?_ (IsS62.ge HI0.out)) | exact HB.out)) hb) (an (hbox) (an ((by rw [hg]; exact (keep_size (w := w) (g := g) (row := none) (by repeat (first | (with_reducible first | exact HK.out | apply KeepBut.set_ | apply keep_drewN | apply keep_drew | apply keep_alloc) | exact HK.out))) : w.heap.size ≤ gb251)) (an ((Nat.le_trans HW0.out (by rw [hg]; exact (keep_size (w := w) (g := g) (row := none) (by repeat (first | (with_reducible first | exact HK.out | apply KeepBut.set_ | apply keep_drewN | apply keep_drew | apply keep_alloc) | exact HK.out))) : w.heap.size ≤ gb251) : w0.heap.size ≤ gb251)) (an ((by rw [hg]; exact Nat.ne_of_lt (IsS62.lt (show IsS62 w0 _ g s0_0 s0_1 s0_2 from by repeat (first | (with_reducible first | exact HI0.out | apply IsS62.alloc | apply IsS62.drewN | apply IsS62.drew | apply IsS62.set_1 | apply IsS62.set_2) | exact HI0.out))) : g ≠ gb251)) (an ((by rw [hg]; exact Nat.ne_of_gt (IsS62.lt (show IsS62 w0 _ g s0_0 s0_1 s0_2 from by repeat (first | (with_reducible first | exact HI0.out | apply IsS62.alloc | apply IsS62.drewN | apply IsS62.drew | apply IsS62.set_1 | apply IsS62.set_2) | exact HI0.out))) : gb251 ≠ g)) (trivial)))))))); clear HI0 HK HB; obtain ⟨HI0, HK, HB, BK251, GW251, GE251, NB0_251, NB251_0, -⟩ := n_; clear hb hbox hg) | ((with_reducible refine gate_callee (f := 32) rfl ?_); refine goesL_ (some 5) rfl rfl Try.func32 (by kernel_rfl) rfl #[.pointer (some ⟨g, 0, none⟩)] rfl (by (try simp only [List.map_toArray, List.map_cons, List.map_nil]); first | done | rfl | (simp only [List.length_drop, List.length_take]; rfl)) ?_; (with_reducible refine (spec_l10table.calls k g s0_0 s0_1 s0_2 t252 t253 t256 t257 w0 _ ?side1 ?side2 A2.out).mono ?_); (case side1 => repeat (first | (with_reducible first | exact HI0.out | apply IsS62.alloc | apply IsS62.drewN | apply IsS62.drew | apply IsS62.set_1 | apply IsS62.set_2 | refine IsS62.far ?_ NB0_251.out _) | exact HI0.out)); (case side2 => repeat (first | (with_reducible first | exact HB.out | apply below_alloc | apply pw_below_drewN | apply below_drew1 | refine below_set ?_ (IsS62.ge HI0.out) | refine below_set ?_ GE251.out) | exact HB.out)); rintro e w5 ⟨v254, rfl, ho0, hi, hb, hk⟩; refine ⟨_, rfl, ?_⟩; have n_ := an (KeepBut.blk hk (blk_nw BK251.out) NB251_0.out (by simp)) (an (Kd.R_lower ho0 (keep_size (w := w) (g := g) (row := none) (by repeat (first | (with_reducible first | exact HK.out | apply KeepBut.set_ | apply keep_drewN | apply keep_drew | apply keep_alloc | refine keep_far ?_ GW251.out _) | exact HK.out)))) (an (KeepBut.trans (by repeat (first | (with_reducible first | exact HK.out | apply KeepBut.set_ | apply keep_drewN | apply keep_drew | apply keep_alloc | refine keep_far ?_ GW251.out _) | exact HK.out)) hk (.inl rfl)) (an (hb) (an (hi) (trivial))))); clear BK251 HK HB HI0; obtain ⟨BK251, HO255, HK, HB, HI0, -⟩ := n_; (try clear hb); (try clear hb2); (try clear hk); (try clear hi); (try clear ho0)) | ((with_reducible refine gate_dst (N := 3) rfl ?_); refine box_event ?hg (N := 3) ?hd (cs := #[.int .i64 0, .slice none 0 0]) (t := 28) ?hr ?_; (case hd => rfl); (case hg => rfl); (case hr => first | (go_simp; done) | (go_simp; rfl)); intro gb258 hg w6 hbox hb; have n_ := an (Kd.R_below (by exact Kd.R_nw HO255.out) hb) (an (IsS62.below (by repeat (first | (with_reducible first | exact HI0.out | apply IsS62.alloc | apply IsS62.drewN | apply IsS62.drew | apply IsS62.set_1 | apply IsS62.set_2 | refine IsS62.far ?_ NB0_251.out _) | exact HI0.out)) hb) (an (blk_below (blk_nw BK251.out) hb) (an (KeepBut.trans (by repeat (first | (with_reducible first | exact HK.out | apply KeepBut.set_ | apply keep_drewN | apply keep_drew | apply keep_alloc | refine keep_far ?_ GW251.out _) | exact HK.out)) (KeepBut.of_below hb g none) (.inl rfl)) (an (below_step (by repeat (first | (with_reducible first | exact HB.out | apply below_alloc | apply pw_below_drewN | apply below_drew1 | refine below_set ?_ (IsS62.ge HI0.out) | refine below_set ?_ GE251.out) | exact HB.out)) hb) (an (hbox) (an ((by rw [hg]; exact (keep_size (w := w) (g := g) (row := none) (by repeat (first | (with_reducible first | exact HK.out | apply KeepBut.set_ | apply keep_drewN | apply keep_drew | apply keep_alloc | refine keep_far ?_ GW251.out _) | exact HK.out))) : w.heap.size ≤ gb258)) (an ((Nat.le_trans HW0.out (by rw [hg]; exact (keep_size (w := w) (g := g) (row := none) (by repeat (first | (with_reducible first | exact HK.out | apply KeepBut.set_ | apply keep_drewN | apply keep_drew | apply keep_alloc | refine keep_far ?_ GW251.out _) | exact HK.out))) : w.heap.size ≤ gb258) : w0.heap.size ≤ gb258)) (an ((by rw [hg]; exact Nat.ne_of_lt (blk_lt (blk_nw BK251.out)) : gb251 ≠ gb258)) (an ((by rw [hg]; exact Nat.ne_of_gt (blk_lt (blk_nw BK251.out)) : gb258 ≠ gb251)) (an ((by rw [hg]; exact Nat.ne_of_lt (IsS62.lt (show IsS62 w0 _ g s0_0 t256 t257 from by repeat (first | (with_reducible first | exact HI0.out | apply IsS62.alloc | apply IsS62.drewN | apply IsS62.drew | apply IsS62.set_1 | apply IsS62.set_2 | refine IsS62.far ?_ NB0_251.out _) | exact HI0.out))) : g ≠ gb258)) (an ((by rw [hg]; exact Nat.ne_of_gt (IsS62.lt (show IsS62 w0 _ g s0_0 t256 t257 from by repeat (first | (with_reducible first | exact HI0.out | apply IsS62.alloc | apply IsS62.drewN | apply IsS62.drew | apply IsS62.set_1 | apply IsS62.set_2 | refine IsS62.far ?_ NB0_251.out _) | exact HI0.out))) : gb258 ≠ g)) (trivial)))))))))))); clear HO255 HI0 BK251 HK HB; obtain ⟨HO255, HI0, BK251, HK, HB, BK258, GW258, GE258, NB251_258, NB258_251, NB0_258, NB258_0, -⟩ := n_; clear hb hbox hg; have hnb7 := NB258_251.out; have hnc7 := NB251_258.out; have hnb8 := NB258_0.out; have hnc8 := NB0_258.out; obtain ⟨hcz9_0, hcz9_1⟩ := blkz2 BK258.out; have hfz9_0 := blkf BK258.out; obtain ⟨Ao10, co10, eo10⟩ := Kd.R_slice HO255.out; subst eo10) | ((with_reducible refine gate_callee (f := 33) rfl ?_); refine goesL_ (some 7) rfl rfl Try.func33 (by kernel_rfl) rfl #[.pointer (some ⟨g, 0, none⟩), .int .i64 7] rfl (by (try simp only [List.map_toArray, List.map_cons, List.map_nil]); first | done | rfl | (simp only [List.length_drop, List.length_take]; rfl)) ?_; (with_reducible refine (spec_l1Once.calls g s0_0 t256 t257 7 t259 t260 t261 w0 _ ?side1 ?side2 A3.out).mono ?_); (case side1 => repeat (first | (with_reducible first | exact HI0.out | apply IsS62.alloc | apply IsS62.drewN | apply IsS62.drew | apply IsS62.set_1 | apply IsS62.set_2 | refine IsS62.far ?_ NB0_251.out _ | refine IsS62.far ?_ NB0_258.out _) | exact HI0.out)); (case side2 => repeat (first | (with_reducible first | exact HB.out | apply below_alloc | apply pw_below_drewN | apply below_drew1 | refine below_set ?_ (IsS62.ge HI0.out) | refine below_set ?_ GE251.out | refine below_set ?_ GE258.out) | exact HB.out)); rintro e w11 ⟨rfl, hi, hb, hk⟩; refine ⟨_, rfl, ?_⟩; have n_ := an (KeepBut.blk hk (blk_kb BK251.out NB251_258.out) NB251_0.out (by simp)) (an (Kd.R_mono (Kd.R_keep (IsS62.apart (show IsS62 w0 _ g s0_0 t256 t257 from by repeat (first | (with_reducible first | exact HI0.out | apply IsS62.alloc | apply IsS62.drewN | apply IsS62.drew | apply IsS62.set_1 | apply IsS62.set_2 | refine IsS62.far ?_ NB0_251.out _ | refine IsS62.far ?_ NB0_258.out _) | exact HI0.out)) (by exact (Kd.R_farN HO255.out BK258.out)) (by decide)) hk (fun _ h => h.2)) (fun _ h => h.1)) (an (KeepBut.blk hk (g' := gb258) (o := .cells #[.int .i64 t252, .slice Ao10 t253.length co10] 28 (0, 0)) (by (with_reducible repeat (first | refine blk_drewN ?_ _ | refine blk_drew ?_ | refine blk_alloc ?_ _)); exact blk_fill2 BK258.out) NB258_0.out (by simp)) (an (KeepBut.trans (by repeat (first | (with_reducible first | exact HK.out | apply KeepBut.set_ | apply keep_drewN | apply keep_drew | apply keep_alloc | refine keep_far ?_ GW251.out _ | refine keep_far ?_ GW258.out _) | exact HK.out)) hk (.inl rfl)) (an (hb) (an (hi) (trivial)))))); clear BK251 HO255 BK258 HK HB HI0; obtain ⟨BK251, HO255, BK258, HK, HB, HI0, -⟩ := n_; (try clear hb); (try clear hb2); (try clear hk); (try clear hi); refine Stop.out ?_))
 refine Stop.mk ?_
 replace H := H.out
 by_cases c12 : t259 = true
 ·subst c12; rw [if_pos rfl] at H; replace H := Option.bind_eq_some_iff.mp H
  obtain ⟨⟨t262, t263, t264⟩, A130, H⟩ := H
  replace H : (if t262 = 0 then ((spec_l1PickInt.f s0_0 t263 t264 (([(-1), 11, 12] : List Int))).bind fun bt268 => (some (bt268.1, t253, bt268.2.1, bt268.2.2))) else (if t262 = 1 then ((spec_l10member.f s0_0 t263 t264).bind fun bt271 => (if t253.length < 5864062014805 then (some (t252, (t253 ++ [(⟨bt271.1, bt271.2.1, bt271.2.2.1⟩ : S40)]), bt271.2.2.2.1, bt271.2.2.2.2)) else (none))) else (if t262 = 2 then ((spec_l1PickInt.f s0_0 t263 t264 (([(-1), 1, 4] : List Int))).bind fun bt282 => (if 0 < (t253.length : Int) then (some (t252, (t253.set (0 : Int).toNat (⟨(rd_T40 t253 0).f0, bt282.1, (rd_T40 t253 0).f2⟩ : S40)), bt282.2.1, bt282.2.2)) else (none))) else (if t262 = 3 then ((spec_l1PickInt.f s0_0 t263 t264 (([(-1), 1000, 1001] : List Int))).bind fun bt289 => (if 0 < (t253.length : Int) then (some (t252, (t253.set (0 : Int).toNat (⟨(rd_T40 t253 0).f0, (rd_T40 t253 0).f1, bt289.1⟩ : S40)), bt289.2.1, bt289.2.2)) else (none))) else (if 1 ≤ (t253.length : Int) then (some (t252, (t253.drop (1 : Int).toNat), t263, t264)) else (none)))))) = some (r1, r2, r3, r4) := H
  have A13 := Aside0.mk A130; clear A130
  replace H := Aside0.mk H
  go_wp2_with (first | ((with_reducible refine gate_callee (f := 34) rfl ?_); refine goesL_ (some 11) rfl rfl Try.func34 (by kernel_rfl) rfl #[.pointer (some ⟨g, 0, none⟩), .int .i64 5] rfl (by (try simp only [List.map_toArray, List.map_cons, List.map_nil]); first | done | rfl | (simp only [List.length_drop, List.length_take]; rfl)) ?_; (with_reducible refine (spec_l1Below.calls g s0_0 t260 t261 5 t262 t263 t264 w0 _ ?side1 ?side2 A13.out).mono ?_); (case side1 => repeat (first | (with_reducible first | exact HI0.out | apply IsS62.alloc | apply IsS62.drewN | apply IsS62.drew | apply IsS62.set_1 | apply IsS62.set_2 | refine IsS62.far ?_ NB0_251.out _ | refine IsS62.far ?_ NB0_258.out _) | exact HI0.out)); (case side2 => repeat (first | (with_reducible first | exact HB.out | apply below_alloc | apply pw_below_drewN | apply below_drew1 | refine below_set ?_ (IsS62.ge HI0.out) | refine below_set ?_ GE251.out | refine below_set ?_ GE258.out) | exact HB.out)); rintro e w14 ⟨rfl, hi, hb, hk⟩; refine ⟨_, rfl, ?_⟩; have n_ := an (KeepBut.blk hk (blk_nw BK251.out) NB251_0.out (by simp)) (an (Kd.R_mono (Kd.R_keep (IsS62.apart (show IsS62 w0 _ g s0_0 t260 t261 from by repeat (first | (with_reducible first | exact HI0.out | apply IsS62.alloc | apply IsS62.drewN | apply IsS62.drew | apply IsS62.set_1 | apply IsS62.set_2 | refine IsS62.far ?_ NB0_251.out _ | refine IsS62.far ?_ NB0_258.out _) | exact HI0.out)) (by exact Kd.R_nw HO255.out) (by decide)) hk (fun _ h => h.2)) (fun _ h => h.1)) (an (KeepBut.blk hk (blk_nw BK258.out) NB258_0.out (by simp)) (an (KeepBut.trans (by repeat (first | (with_reducible first | exact HK.out | apply KeepBut.set_ | apply keep_drewN | apply keep_drew | apply keep_alloc | refine keep_far ?_ GW251.out _ | refine keep_far ?_ GW258.out _) | exact HK.out)) hk (.inl rfl)) (an (hb) (an (hi) (trivial)))))); clear BK251 HO255 BK258 HK HB HI0; obtain ⟨BK251, HO255, BK258, HK, HB, HI0, -⟩ := n_; (try clear hb); (try clear hb2); (try clear hk); (try clear hi); refine Stop.out ?_))
  refine Stop.mk ?_
  replace H := H.out
  by_cases c15 : t262 = 0
  ·rw [if_pos c15] at H; have c15b0 : (t262 == 0) = true := beq_iff_eq.mpr c15; have c15b1 : (t262 != 0) = false := bne_eq_false_iff_eq.mpr c15; clear c15
   obtain ⟨y265, hy265⟩ : ∃ y_ : List Int, y_ = (([(-1), 11, 12] : List Int)) := ⟨_, rfl⟩
   replace H : ((spec_l1PickInt.f s0_0 t263 t264 y265).bind fun bt268 => (some (bt268.1, t253, bt268.2.1, bt268.2.2))) = some (r1, r2, r3, r4) := by first | (rw [hy265]; with_reducible exact H) | (rw [hy265]; exact H) | exact H
   have Ny265 := Aside0.mk hy265; clear hy265; replace H := Option.bind_eq_some_iff.mp H
   obtain ⟨⟨t268, t269, t270⟩, A160, H⟩ := H
   replace H : (some (t268, t253, t269, t270)) = some (r1, r2, r3, r4) := H
   have A16 := Aside0.mk A160; clear A160; simp only [Option.some.injEq, Prod.mk.injEq] at H; obtain ⟨rfl, rfl, rfl, rfl⟩ := H
   go_wp2_with (first | ((with_reducible refine gate_dst (N := 19) rfl ?_); refine Kd.R_lit (Kd.int .i64) _ 3 ?hg (N := 19) ?hd (xs := ([(-1), 11, 12] : List Int)) (inner := [.int .i64 (-1), .int .i64 11, .int .i64 12]) (ok := fun _ => True) (okp := fun _ => True) ?hr ?hp (fun _ hk => hk) trivial (Below.refl _ _) (Nat.le_refl _) (by simp) ?_; (case hd => rfl); (case hg => rfl); (case hr => first | (go_simp; done) | (go_simp; rfl)); (case hp => exact (Reps.one (show Kd.M (Kd.int .i64) _ _ _ (-1) [.int .i64 (-1)] from rfl) (Reps.one (show Kd.M (Kd.int .i64) _ _ _ 11 [.int .i64 11] from rfl) (Reps.one (show Kd.M (Kd.int .i64) _ _ _ 12 [.int .i64 12] from rfl) (Reps.none _ _))))); intro v266 w17 ho18 hb hg_ hnew_; clear hg_ hnew_; (first | rw [← Ny265.out] at ho18 | (simp only [Int.reduceToNat] at ho18; rw [← Ny265.out] at ho18)); have n_ := an (Kd.R_below (by exact Kd.R_nw HO255.out) hb) (an (Kd.R_lower ho18 (keep_size (w := w) (g := g) (row := none) (by repeat (first | (with_reducible first | exact HK.out | apply KeepBut.set_ | apply keep_drewN | apply keep_drew | apply keep_alloc | refine keep_far ?_ GW251.out _ | refine keep_far ?_ GW258.out _) | exact HK.out)))) (an (IsS62.below (by repeat (first | (with_reducible first | exact HI0.out | apply IsS62.alloc | apply IsS62.drewN | apply IsS62.drew | apply IsS62.set_1 | apply IsS62.set_2 | refine IsS62.far ?_ NB0_251.out _ | refine IsS62.far ?_ NB0_258.out _) | exact HI0.out)) hb) (an (blk_below (blk_nw BK251.out) hb) (an (blk_below (blk_nw BK258.out) hb) (an (KeepBut.trans (by repeat (first | (with_reducible first | exact HK.out | apply KeepBut.set_ | apply keep_drewN | apply keep_drew | apply keep_alloc | refine keep_far ?_ GW251.out _ | refine keep_far ?_ GW258.out _) | exact HK.out)) (KeepBut.of_below hb g none) (.inl rfl)) (an (below_step (by repeat (first | (with_reducible first | exact HB.out | apply below_alloc | apply pw_below_drewN | apply below_drew1 | refine below_set ?_ (IsS62.ge HI0.out) | refine below_set ?_ GE251.out | refine below_set ?_ GE258.out) | exact HB.out)) hb) (trivial))))))); clear HO255 HI0 BK251 BK258 HK HB; obtain ⟨HO255, HO267, HI0, BK251, BK258, HK, HB, -⟩ := n_; clear hb ho18; obtain ⟨Ao19, co19, eo19⟩ := Kd.R_slice HO267.out; subst eo19) | ((with_reducible refine gate_callee (f := 35) rfl ?_); refine goesL_ (some 20) rfl rfl Try.func35 (by kernel_rfl) rfl #[.pointer (some ⟨g, 0, none⟩), .slice Ao19 y265.length co19] rfl (by (try simp only [List.map_toArray, List.map_cons, List.map_nil]); first | done | rfl | (simp only [List.length_drop, List.length_take]; rfl)) ?_; (with_reducible refine (spec_l1PickInt.calls g s0_0 t263 t264 _ _ y265 t268 t269 t270 w0 _ ?side1 ?side2 ?side3 ?side4 ?side5 A16.out).mono ?_); (case side1 => repeat (first | (with_reducible first | exact HI0.out | apply IsS62.alloc | apply IsS62.drewN | apply IsS62.drew | apply IsS62.set_1 | apply IsS62.set_2 | refine IsS62.far ?_ NB0_251.out _ | refine IsS62.far ?_ NB0_258.out _) | exact HI0.out)); (case side2 => repeat (first | (with_reducible first | exact HB.out | apply below_alloc | apply pw_below_drewN | apply below_drew1 | refine below_set ?_ (IsS62.ge HI0.out) | refine below_set ?_ GE251.out | refine below_set ?_ GE258.out) | exact HB.out)); (case side3 => repeat (first | exact (Kd.R_reads' HO267.out).2.2 | (with_reducible refine Kd.C_alloc ?_ _) | (with_reducible refine Kd.C_drewN ?_ _) | (with_reducible refine Kd.C_drew ?_))); (case side4 => exact (Kd.R_reads' HO267.out).2.1); (case side5 => exact far_slice (IsS62.own_ne HI0.out HO267.out (by decide))); rintro e w20 ⟨rfl, hi, hb, hk⟩; refine ⟨_, rfl, ?_⟩; have n_ := an (KeepBut.blk hk (blk_nw BK251.out) NB251_0.out (by simp)) (an (Kd.R_mono (Kd.R_keep (IsS62.apart (show IsS62 w0 _ g s0_0 t263 t264 from by repeat (first | (with_reducible first | exact HI0.out | apply IsS62.alloc | apply IsS62.drewN | apply IsS62.drew | apply IsS62.set_1 | apply IsS62.set_2 | refine IsS62.far ?_ NB0_251.out _ | refine IsS62.far ?_ NB0_258.out _) | exact HI0.out)) (by exact Kd.R_nw HO255.out) (by decide)) hk (fun _ h => h.2)) (fun _ h => h.1)) (an (KeepBut.blk hk (blk_nw BK258.out) NB258_0.out (by simp)) (an (Kd.R_mono (Kd.R_keep (IsS62.apart (show IsS62 w0 _ g s0_0 t263 t264 from by repeat (first | (with_reducible first | exact HI0.out | apply IsS62.alloc | apply IsS62.drewN | apply IsS62.drew | apply IsS62.set_1 | apply IsS62.set_2 | refine IsS62.far ?_ NB0_251.out _ | refine IsS62.far ?_ NB0_258.out _) | exact HI0.out)) (by exact Kd.R_nw HO267.out) (by decide)) hk (fun _ h => h.2)) (fun _ h => h.1)) (an (KeepBut.trans (by repeat (first | (with_reducible first | exact HK.out | apply KeepBut.set_ | apply keep_drewN | apply keep_drew | apply keep_alloc | refine keep_far ?_ GW251.out _ | refine keep_far ?_ GW258.out _) | exact HK.out)) hk (.inl rfl)) (an (hb) (an (hi) (trivial))))))); clear BK251 HO255 BK258 HO267 HK HB HI0; obtain ⟨BK251, HO255, BK258, HO267, HK, HB, HI0, -⟩ := n_; (try clear hb); (try clear hb2); (try clear hk); (try clear hi); have hnb21 := NB258_251.out; have hnc21 := NB251_258.out; have hnb22 := NB258_0.out; have hnc22 := NB0_258.out; obtain ⟨hcz23_0, hcz23_1⟩ := blkz2 BK258.out; have hfz23_0 := blkf BK258.out; have hnb24 := NB251_0.out; have hnc24 := NB0_251.out; obtain ⟨hcz25_0, hcz25_1⟩ := blkz2 BK251.out; have hfz25_0 := blkf BK251.out))
   refine bodyPost_ret (results_cell_row rfl _ _ gb251 28 #[.int .i64 t268, .slice Ao10 t253.length co10] (0, 0) _ rfl (by (with_reducible repeat (first | refine blk_drewN ?_ _ | refine blk_drew ?_ | refine blk_alloc ?_ _)); refine blk_put (cs := #[.int .i64 t268, .slice none 0 0]) ?_ 1 _ rfl; (with_reducible repeat (first | refine blk_drewN ?_ _ | refine blk_drew ?_ | refine blk_alloc ?_ _)); refine blk_put (cs := #[.int .i64 0, .slice none 0 0]) ?_ 0 _ rfl; (with_reducible repeat (first | refine blk_drewN ?_ _ | refine blk_drew ?_ | refine blk_alloc ?_ _)); refine blk_far ?_ NB251_258.out _; (with_reducible repeat (first | refine blk_drewN ?_ _ | refine blk_drew ?_ | refine blk_alloc ?_ _)); exact BK251.out) Try.underlying28 rfl (by kernel_rfl)) rfl ?_
   exact ⟨_, by first | rfl | (simp [errW_none, errW_some] <;> rfl) | (simp [*, errW_none, errW_some] <;> rfl), Kd.Q_of_R (by (with_reducible repeat (first | apply Kd.R_alloc | apply Kd.R_drewN | apply Kd.R_drew)); exact Kd.R_mono (Kd.R_far (p := ⟨gb251, 1, none⟩) (Kd.R_far (p := ⟨gb251, 0, none⟩) (Kd.R_far (p := ⟨gb258, 0, none⟩) (Kd.R_types (Kd.R_types HO255.out BK258.out (by decide)) BK251.out (by decide)) (fun _ hk => hk.1.2) (.int .i64 t268)) (fun _ hk => hk.2) (.int .i64 t268)) (fun _ hk => hk.2) (.slice Ao10 t253.length co10)) (fun _ hk => trivial)), by repeat (first | (with_reducible first | exact HI0.out | apply IsS62.alloc | apply IsS62.drewN | apply IsS62.drew | apply IsS62.set_1 | apply IsS62.set_2 | refine IsS62.far ?_ NB0_251.out _ | refine IsS62.far ?_ NB0_258.out _) | exact HI0.out), by repeat (first | (with_reducible first | exact HB.out | apply below_alloc | apply pw_below_drewN | apply below_drew1 | refine below_set ?_ (IsS62.ge HI0.out) | refine below_set ?_ GE251.out | refine below_set ?_ GE258.out) | exact HB.out), by repeat (first | (with_reducible first | exact HK.out | apply KeepBut.set_ | apply keep_drewN | apply keep_drew | apply keep_alloc | refine keep_far ?_ GW251.out _ | refine keep_far ?_ GW258.out _) | exact HK.out)⟩
  ·rw [if_neg c15] at H; have c15b0 : (t262 == 0) = false := beq_eq_false_iff_ne.mpr c15; have c15b1 : (t262 != 0) = true := bne_iff_ne.mpr c15
   by_cases c26 : t262 = 1
   ·rw [if_pos c26] at H; have c26b0 : (t262 == 1) = true := beq_iff_eq.mpr c26; have c26b1 : (t262 != 1) = false := bne_eq_false_iff_eq.mpr c26; clear c26; replace H := Option.bind_eq_some_iff.mp H
    obtain ⟨⟨t271, t272, t273, t274, t275⟩, A270, H⟩ := H
    replace H : (if t253.length < 5864062014805 then (some (t252, (t253 ++ [(⟨t271, t272, t273⟩ : S40)]), t274, t275)) else (none)) = some (r1, r2, r3, r4) := H
    have A27 := Aside0.mk A270; clear A270
    by_cases c28 : t253.length < 5864062014805
    ·rw [if_pos c28] at H; have LMc28 := Aside0.mk c28; clear c28
     obtain ⟨y276, hy276⟩ : ∃ y_ : List (S40), y_ = (t253 ++ [(⟨t271, t272, t273⟩ : S40)]) := ⟨_, rfl⟩
     replace H : (some (t252, y276, t274, t275)) = some (r1, r2, r3, r4) := by first | (rw [hy276]; with_reducible exact H) | (rw [hy276]; exact H) | exact H
     have Ny276 := Aside0.mk hy276; clear hy276; simp only [Option.some.injEq, Prod.mk.injEq] at H; obtain ⟨rfl, rfl, rfl, rfl⟩ := H
     try go_wp2
     have n_ := an (Kd.R_drew HO255.out) (an (blk_drew BK251.out) (an (blk_drew BK258.out) (an (IsS62.drew HI0.out) (an (keep_drew HK.out) (an (below_drew1 HB.out) (trivial))))))
     clear HO255 BK251 BK258 HI0 HK HB
     obtain ⟨HO255, BK251, BK258, HI0, HK, HB, -⟩ := n_
     refine start_ (n := 8) (S := fun w' => w'.cell? ⟨gb258, 0, none⟩ = some (.int .i64 t252) ∧ w'.cell? ⟨gb258, 1, none⟩ = some (.slice Ao10 t253.length co10)) (ds := [7]) #[false, false, false, false, false, false, false, false] (by kernel_rfl) rfl rfl ⟨(blk_cell BK258.out 0).trans rfl, (blk_cell BK258.out 1).trans rfl⟩ (fun hHeld => ?_); refine with_tabW spec_l10bent.tab9 spec_l10bent.bits9 (fun HT_ HW_ => ?_)
     generalize w14.drew = w29 at HO255 BK251 BK258 HI0 HK HB hHeld ⊢
     refine pure_ (i := 0) (N := some 24) (v := ?_) (a' := ?_) #[true, false, false, false, false, false, false, false] rfl rfl (any_of HT_.out (by kernel_rfl)) (fun _ _ _ h => h) (Or.inl ⟨by rfl, ?_⟩) ?_ ?_
     rotate_left
     ·intro w'
      go_simp
      with_reducible rfl
     rotate_left
     ·simp only [Act.put, List.setIfInBounds_toArray, List.set_cons_zero, List.set_cons_succ, i64_w, i32_w]
      rfl
     refine pure_ (i := 2) (N := some 26) (v := ?_) (a' := ?_) #[true, false, true, false, false, false, false, false] rfl rfl (any_of HT_.out (by kernel_rfl)) (fun _ _ _ h => h) (Or.inl ⟨by rfl, ?_⟩) ?_ ?_
     rotate_left
     ·intro w'
      go_simp
      with_reducible rfl
     rotate_left
     ·simp only [Act.put, List.setIfInBounds_toArray, List.set_cons_zero, List.set_cons_succ, i64_w, i32_w]
      rfl
     refine take_ (i := 1) (N := some 25) (v := ?_) (a' := ?_) #[true, true, true, false, false, false, false, false] rfl rfl (take_ofW HT_.out HW_.out (by kernel_rfl)) (fun _ _ _ h => h) (Or.inl ⟨by rfl, ?_⟩) hHeld ?_ ?_
     rotate_left
     ·rintro w' ⟨s0, s1⟩
      go_simp
      with_reducible rfl
     rotate_left
     ·simp only [Act.put, List.setIfInBounds_toArray, List.set_cons_zero, List.set_cons_succ, i64_w, i32_w]
      rfl
     refine one_ (i := 3) (N := some 27) #[true, true, true, true, false, false, false, false] rfl rfl (one_of HT_.out (by kernel_rfl)) (by decide) (fun K hK => ?_)
     refine goes_ Try.func36 (by kernel_rfl) rfl #[.pointer (some ⟨g, 0, none⟩)] (by rfl) rfl rfl (by (try simp only [List.map_toArray, List.map_cons, List.map_nil]); first | done | rfl | (simp only [List.length_drop, List.length_take]; rfl)) ?_
     with_reducible refine (spec_l10member.calls g s0_0 t263 t264 t271 t272 t273 t274 t275 w0 _ ?side1 ?side2 A27.out).mono ?_
     (case side1 => repeat (first | (with_reducible first | exact HI0.out | apply IsS62.alloc | apply IsS62.drewN | apply IsS62.drew | apply IsS62.set_1 | apply IsS62.set_2 | refine IsS62.far ?_ NB0_251.out _ | refine IsS62.far ?_ NB0_258.out _) | exact HI0.out))
     (case side2 => repeat (first | (with_reducible first | exact HB.out | apply below_alloc | apply pw_below_drewN | apply below_drew1 | refine below_set ?_ (IsS62.ge HI0.out) | refine below_set ?_ GE251.out | refine below_set ?_ GE258.out) | exact HB.out))
     rintro e w30 ⟨rfl, hi, hb, hk⟩
     refine ⟨_, rfl, ?_⟩
     have n_ := an (KeepBut.blk hk (blk_nw BK251.out) NB251_0.out (by simp)) (an (Kd.R_mono (Kd.R_keep (IsS62.apart (show IsS62 w0 _ g s0_0 t263 t264 from by repeat (first | (with_reducible first | exact HI0.out | apply IsS62.alloc | apply IsS62.drewN | apply IsS62.drew | apply IsS62.set_1 | apply IsS62.set_2 | refine IsS62.far ?_ NB0_251.out _ | refine IsS62.far ?_ NB0_258.out _) | exact HI0.out)) (by exact Kd.R_nw HO255.out) (by decide)) hk (fun _ h => h.2)) (fun _ h => h.1)) (an (KeepBut.blk hk (blk_nw BK258.out) NB258_0.out (by simp)) (an (KeepBut.trans (by repeat (first | (with_reducible first | exact HK.out | apply KeepBut.set_ | apply keep_drewN | apply keep_drew | apply keep_alloc | refine keep_far ?_ GW251.out _ | refine keep_far ?_ GW258.out _) | exact HK.out)) hk (.inl rfl)) (an (hb) (an (hi) (trivial))))))
     clear BK251 HO255 BK258 HK HB HI0
     obtain ⟨BK251, HO255, BK258, HK, HB, HI0, -⟩ := n_
     (try clear hb); (try clear hb2); (try clear hk); (try clear hi)
     refine hK.out _ _ ⟨(blk_cell BK258.out 0).trans rfl, (blk_cell BK258.out 1).trans rfl⟩ (fun hHeld => ?_)
     clear hK K
     refine norm_ (a' := ?_) ?_ ?_
     rotate_left
     ·show Act.put _ (some 27) _ = _
      simp only [Act.put, List.setIfInBounds_toArray, List.set_cons_zero, List.set_cons_succ, i64_w, i32_w]
      rfl
     refine one_ (i := 4) (N := some 28) #[true, true, true, true, true, false, false, false] rfl rfl (one_of HT_.out (by kernel_rfl)) (by decide) (fun K hK => ?_)
     refine value_ (w1 := ?_) (v := ?_) (by rfl) rfl ?_ ?_
     rotate_left 2
     ·go_simp
      constructor
      ·rfl
      ·rfl
     refine hK.out _ _ ⟨(blk_cell (blk_alloc BK258.out _) 0).trans rfl, (blk_cell (blk_alloc BK258.out _) 1).trans rfl⟩ (fun hHeld => ?_)
     clear hK K
     refine norm_ (a' := ?_) ?_ ?_
     rotate_left
     ·show Act.put _ (some 28) _ = _
      simp only [Act.put, List.setIfInBounds_toArray, List.set_cons_zero, List.set_cons_succ, i64_w, i32_w]
      rfl
     refine one_ (i := 5) (N := some 29) #[true, true, true, true, true, true, false, false] rfl rfl (one_of HT_.out (by kernel_rfl)) (by decide) (fun K hK => ?_)
     refine Kd.R_append_step k40 w.heap.size (by rfl) (.tmp 25) (.tmp 28) 26 40 (.agg #[(.int .i64 0), (.int .i64 0), (.int .i64 0)]) 24 rfl Try.underlying26 info40 rfl (by decide) (by omega) (.slice Ao10 t253.length co10) t253 (⟨t271, t272, t273⟩ : S40) [.int .i64 t271, .int .i64 t272, .int .i64 t273] (fun _ => True) (fun _ => False) rfl rfl ?aP (fun _ hk => hk.elim) ?aF ?aO (Below.refl _ _) ?aS ?aL ?_
     (case aP => exact k40_mkM _ _ _ (⟨t271, t272, t273⟩ : S40))
     (case aF => exact (fun _ _ => trivial))
     (case aO => exact (by exact Kd.R_nw HO255.out))
     (case aS => exact (keep_size (w := w) (g := g) (row := none) (by repeat (first | (with_reducible first | exact HK.out | apply KeepBut.set_ | apply keep_drewN | apply keep_drew | apply keep_alloc | refine keep_far ?_ GW251.out _ | refine keep_far ?_ GW258.out _) | exact HK.out))))
     (case aL => have := LMc28.out; omega)
     intro v277 w31 ho hb hg hat
     rw [← Ny276.out] at ho
     have n_ := an (IsS62.grown (by repeat (first | (with_reducible first | exact HI0.out | apply IsS62.alloc | apply IsS62.drewN | apply IsS62.drew | apply IsS62.set_1 | apply IsS62.set_2 | refine IsS62.far ?_ NB0_251.out _ | refine IsS62.far ?_ NB0_258.out _) | exact HI0.out)) hg (IsS62.own_ne HI0.out HO255.out (by decide))) (an (blk_grown (blk_nw BK251.out) hg (Kd.R_ne HO255.out BK251.out (by decide))) (an (blk_grown (blk_nw BK258.out) hg (Kd.R_ne HO255.out BK258.out (by decide))) (an (below_weaken (by repeat (first | (with_reducible first | exact HB.out | apply below_alloc | apply pw_below_drewN | apply below_drew1 | refine below_set ?_ (IsS62.ge HI0.out) | refine below_set ?_ GE251.out | refine below_set ?_ GE258.out) | exact HB.out)) HL.out hb) (an (KeepBut.trans (by repeat (first | (with_reducible first | exact HK.out | apply KeepBut.set_ | apply keep_drewN | apply keep_drew | apply keep_alloc | refine keep_far ?_ GW251.out _ | refine keep_far ?_ GW258.out _) | exact HK.out)) (KeepBut.of_grown hg g) (Kd.R_base2 HO255.out)) (an (ho) (trivial))))))
     clear HI0 BK251 BK258 HB HK HO255
     obtain ⟨HI0, BK251, BK258, HB, HK, HO278, -⟩ := n_
     clear ho hb hg hat
     obtain ⟨Ao32, co32, eo32⟩ := Kd.R_slice HO278.out
     (first | subst eo32 | (injection eo32 with f1_ f2_ f3_; have f4_ := f1_.symm; have f5_ := f3_.symm; clear f1_ f2_ f3_; subst f4_; subst f5_))
     refine hK.out _ _ ⟨(blk_cell BK258.out 0).trans rfl, (blk_cell BK258.out 1).trans rfl⟩ (fun hHeld => ?_)
     clear hK K
     refine norm_ (a' := ?_) ?_ ?_
     rotate_left
     ·show Act.put _ (some 29) _ = _
      simp only [Act.put, List.setIfInBounds_toArray, List.set_cons_zero, List.set_cons_succ, i64_w, i32_w]
      rfl
     refine pure_ (i := 6) (N := some 30) (v := ?_) (a' := ?_) #[true, true, true, true, true, true, true, false] rfl rfl (any_of HT_.out (by kernel_rfl)) (fun _ _ _ h => h) (Or.inl ⟨by rfl, ?_⟩) ?_ ?_
     rotate_left
     ·intro w'
      go_simp
      with_reducible rfl
     rotate_left
     ·simp only [Act.put, List.setIfInBounds_toArray, List.set_cons_zero, List.set_cons_succ, i64_w, i32_w]
      rfl
     refine last_ (i := 7) (N := none) #[true, true, true, true, true, true, true, true] rfl rfl (one_of HT_.out (by kernel_rfl)) (by decide) (fun K hK => ?_)
     have hs33 : w31.cell? ⟨gb258, 1, none⟩ = some (.slice Ao10 t253.length co10) := (blk_cell BK258.out 1).trans rfl
     have hfs33 := blk_frozen BK258.out 1
     have hns33_0 := NB251_258.out; have hms33_0 := NB258_251.out
     refine skip_ (w1 := ?_) (by rfl) rfl ?_ ?_
     rotate_left
     ·go_simp
      rfl
     refine hK.out _ _ ?_
     clear hK K
     refine done_ (done_of HT_.out (by kernel_rfl)) ?_
     have hnb34 := NB258_251.out; have hnc34 := NB251_258.out; have hnb35 := NB258_0.out; have hnc35 := NB0_258.out; obtain ⟨hcz36_0, hcz36_1⟩ := blkz2 BK258.out; have hfz36_0 := blkf BK258.out; have hnb37 := NB251_0.out; have hnc37 := NB0_251.out; obtain ⟨hcz38_0, hcz38_1⟩ := blkz2 BK251.out; have hfz38_0 := blkf BK251.out
     try go_wp2
     refine bodyPost_ret (results_cell_row rfl _ _ gb251 28 #[.int .i64 t252, .slice Ao32 y276.length co32] (0, 0) _ rfl (by (with_reducible repeat (first | refine blk_drewN ?_ _ | refine blk_drew ?_ | refine blk_alloc ?_ _)); refine blk_put (cs := #[.int .i64 t252, .slice none 0 0]) ?_ 1 _ rfl; (with_reducible repeat (first | refine blk_drewN ?_ _ | refine blk_drew ?_ | refine blk_alloc ?_ _)); refine blk_put (cs := #[.int .i64 0, .slice none 0 0]) ?_ 0 _ rfl; (with_reducible repeat (first | refine blk_drewN ?_ _ | refine blk_drew ?_ | refine blk_alloc ?_ _)); refine blk_far ?_ NB251_258.out _; (with_reducible repeat (first | refine blk_drewN ?_ _ | refine blk_drew ?_ | refine blk_alloc ?_ _)); exact BK251.out) Try.underlying28 rfl (by kernel_rfl)) rfl ?_
     exact ⟨_, by first | rfl | (simp [errW_none, errW_some] <;> rfl) | (simp [*, errW_none, errW_some] <;> rfl), Kd.Q_of_R (by (with_reducible repeat (first | apply Kd.R_alloc | apply Kd.R_drewN | apply Kd.R_drew)); exact Kd.R_mono (Kd.R_far (p := ⟨gb251, 1, none⟩) (Kd.R_far (p := ⟨gb251, 0, none⟩) (Kd.R_far (p := ⟨gb258, 1, none⟩) (Kd.R_types (Kd.R_types HO278.out BK258.out (by decide)) BK251.out (by decide)) (fun _ hk => hk.1.2) (.slice Ao32 y276.length co32)) (fun _ hk => hk.2) (.int .i64 t252)) (fun _ hk => hk.2) (.slice Ao32 y276.length co32)) (fun _ hk => trivial)), by repeat (first | (with_reducible first | exact HI0.out | apply IsS62.alloc | apply IsS62.drewN | apply IsS62.drew | apply IsS62.set_1 | apply IsS62.set_2 | refine IsS62.far ?_ NB0_251.out _ | refine IsS62.far ?_ NB0_258.out _) | exact HI0.out), by repeat (first | (with_reducible first | exact HB.out | apply below_alloc | apply pw_below_drewN | apply below_drew1 | refine below_set ?_ (IsS62.ge HI0.out) | refine below_set ?_ GE251.out | refine below_set ?_ GE258.out) | exact HB.out), by repeat (first | (with_reducible first | exact HK.out | apply KeepBut.set_ | apply keep_drewN | apply keep_drew | apply keep_alloc | refine keep_far ?_ GW251.out _ | refine keep_far ?_ GW258.out _) | exact HK.out)⟩
    ·rw [if_neg c28] at H
     exact absurd H (by simp)
   ·rw [if_neg c26] at H; have c26b0 : (t262 == 1) = false := beq_eq_false_iff_ne.mpr c26; have c26b1 : (t262 != 1) = true := bne_iff_ne.mpr c26
    by_cases c39 : t262 = 2
    ·rw [if_pos c39] at H; have c39b0 : (t262 == 2) = true := beq_iff_eq.mpr c39; have c39b1 : (t262 != 2) = false := bne_eq_false_iff_eq.mpr c39; clear c39
     obtain ⟨y279, hy279⟩ : ∃ y_ : List Int, y_ = (([(-1), 1, 4] : List Int)) := ⟨_, rfl⟩
     replace H : ((spec_l1PickInt.f s0_0 t263 t264 y279).bind fun bt282 => (if 0 < (t253.length : Int) then (some (t252, (t253.set (0 : Int).toNat (⟨(rd_T40 t253 0).f0, bt282.1, (rd_T40 t253 0).f2⟩ : S40)), bt282.2.1, bt282.2.2)) else (none))) = some (r1, r2, r3, r4) := by first | (rw [hy279]; with_reducible exact H) | (rw [hy279]; exact H) | exact H
     have Ny279 := Aside0.mk hy279; clear hy279; replace H := Option.bind_eq_some_iff.mp H
     obtain ⟨⟨t282, t283, t284⟩, A400, H⟩ := H
     replace H : (if 0 < (t253.length : Int) then (some (t252, (t253.set (0 : Int).toNat (⟨(rd_T40 t253 0).f0, t282, (rd_T40 t253 0).f2⟩ : S40)), t283, t284)) else (none)) = some (r1, r2, r3, r4) := H
     have A40 := Aside0.mk A400; clear A400
     by_cases c41 : 0 < (t253.length : Int)
     ·rw [if_pos c41] at H
      have c41b0 : decide (0 < (t253.length : Int)) = true := decide_eq_true c41
      have c41b1 : decide (0 < t253.length) = true := decide_eq_true (by omega)
      clear c41; (try simp only [c41b0])
      obtain ⟨y285, hy285⟩ : ∃ y_ : List (S40), y_ = (t253.set (0 : Int).toNat (⟨(rd_T40 t253 0).f0, t282, (rd_T40 t253 0).f2⟩ : S40)) := ⟨_, rfl⟩
      replace H : (some (t252, y285, t283, t284)) = some (r1, r2, r3, r4) := by first | (rw [hy285]; with_reducible exact H) | (rw [hy285]; exact H) | exact H
      have Ny285 := Aside0.mk hy285; clear hy285; simp only [Option.some.injEq, Prod.mk.injEq] at H; obtain ⟨rfl, rfl, rfl, rfl⟩ := H
      try go_wp2
      have n_ := an (Kd.R_drew HO255.out) (an (blk_drew BK251.out) (an (blk_drew BK258.out) (an (IsS62.drew HI0.out) (an (keep_drew HK.out) (an (below_drew1 HB.out) (trivial))))))
      clear HO255 BK251 BK258 HI0 HK HB
      obtain ⟨HO255, BK251, BK258, HI0, HK, HB, -⟩ := n_
      refine start_ (n := 8) (S := fun w' => w'.cell? ⟨gb258, 0, none⟩ = some (.int .i64 t252) ∧ w'.cell? ⟨gb258, 1, none⟩ = some (.slice Ao10 t253.length co10)) (ds := [7]) #[false, false, false, false, false, false, false, false] (by kernel_rfl) rfl rfl ⟨(blk_cell BK258.out 0).trans rfl, (blk_cell BK258.out 1).trans rfl⟩ (fun hHeld => ?_); refine with_tabW spec_l10bent.tab11 spec_l10bent.bits11 (fun HT_ HW_ => ?_)
      generalize w14.drew = w43 at HO255 BK251 BK258 HI0 HK HB hHeld ⊢
      refine pure_ (i := 0) (N := some 33) (v := ?_) (a' := ?_) #[true, false, false, false, false, false, false, false] rfl rfl (any_of HT_.out (by kernel_rfl)) (fun _ _ _ h => h) (Or.inl ⟨by rfl, ?_⟩) ?_ ?_
      rotate_left
      ·intro w'
       go_simp
       with_reducible rfl
      rotate_left
      ·simp only [Act.put, List.setIfInBounds_toArray, List.set_cons_zero, List.set_cons_succ, i64_w, i32_w]
       rfl
      refine pure_ (i := 2) (N := some 35) (v := ?_) (a' := ?_) #[true, false, true, false, false, false, false, false] rfl rfl (any_of HT_.out (by kernel_rfl)) (fun _ _ _ h => h) (Or.inl ⟨by rfl, ?_⟩) ?_ ?_
      rotate_left
      ·intro w'
       go_simp
       with_reducible rfl
      rotate_left
      ·simp only [Act.put, List.setIfInBounds_toArray, List.set_cons_zero, List.set_cons_succ, i64_w, i32_w]
       rfl
      refine take_ (i := 1) (N := some 34) (v := ?_) (a' := ?_) #[true, true, true, false, false, false, false, false] rfl rfl (take_ofW HT_.out HW_.out (by kernel_rfl)) (fun _ _ _ h => h) (Or.inl ⟨by rfl, ?_⟩) hHeld ?_ ?_
      rotate_left
      ·rintro w' ⟨s0, s1⟩
       go_simp
       with_reducible rfl
      rotate_left
      ·simp only [Act.put, List.setIfInBounds_toArray, List.set_cons_zero, List.set_cons_succ, i64_w, i32_w]
       rfl
      refine one_ (i := 3) (N := some 36) #[true, true, true, true, false, false, false, false] rfl rfl (one_of HT_.out (by kernel_rfl)) (by decide) (fun K hK => ?_)
      refine Kd.R_lit_step (Kd.int .i64) _ 3 ?hg (N := 36) ?hd (xs := ([(-1), 1, 4] : List Int)) (inner := [.int .i64 (-1), .int .i64 1, .int .i64 4]) (ok := fun _ => True) (okp := fun _ => True) ?hr ?hp (fun _ hk => hk) trivial (Below.refl _ _) (Nat.le_refl _) (by simp) ?_; (case hd => rfl); (case hg => rfl); (case hr => first | (go_simp; done) | (go_simp; rfl)); (case hp => exact (Reps.one (show Kd.M (Kd.int .i64) _ _ _ (-1) [.int .i64 (-1)] from rfl) (Reps.one (show Kd.M (Kd.int .i64) _ _ _ 1 [.int .i64 1] from rfl) (Reps.one (show Kd.M (Kd.int .i64) _ _ _ 4 [.int .i64 4] from rfl) (Reps.none _ _)))))
      intro v280 w44 ho45 hb hg_ hnew_
      clear hg_ hnew_
      (first | rw [← Ny279.out] at ho45 | (simp only [Int.reduceToNat] at ho45; rw [← Ny279.out] at ho45))
      have n_ := an (Kd.R_below (by exact Kd.R_nw HO255.out) hb) (an (Kd.R_lower ho45 (keep_size (w := w) (g := g) (row := none) (by repeat (first | (with_reducible first | exact HK.out | apply KeepBut.set_ | apply keep_drewN | apply keep_drew | apply keep_alloc | refine keep_far ?_ GW251.out _ | refine keep_far ?_ GW258.out _) | exact HK.out)))) (an (IsS62.below (by repeat (first | (with_reducible first | exact HI0.out | apply IsS62.alloc | apply IsS62.drewN | apply IsS62.drew | apply IsS62.set_1 | apply IsS62.set_2 | refine IsS62.far ?_ NB0_251.out _ | refine IsS62.far ?_ NB0_258.out _) | exact HI0.out)) hb) (an (blk_below (blk_nw BK251.out) hb) (an (blk_below (blk_nw BK258.out) hb) (an (KeepBut.trans (by repeat (first | (with_reducible first | exact HK.out | apply KeepBut.set_ | apply keep_drewN | apply keep_drew | apply keep_alloc | refine keep_far ?_ GW251.out _ | refine keep_far ?_ GW258.out _) | exact HK.out)) (KeepBut.of_below hb g none) (.inl rfl)) (an (below_step (by repeat (first | (with_reducible first | exact HB.out | apply below_alloc | apply pw_below_drewN | apply below_drew1 | refine below_set ?_ (IsS62.ge HI0.out) | refine below_set ?_ GE251.out | refine below_set ?_ GE258.out) | exact HB.out)) hb) (trivial)))))))
      clear HO255 HI0 BK251 BK258 HK HB
      obtain ⟨HO255, HO281, HI0, BK251, BK258, HK, HB, -⟩ := n_
      clear hb ho45
      obtain ⟨Ao46, co46, eo46⟩ := Kd.R_slice HO281.out
      (first | subst eo46 | (injection eo46 with f1_ f2_ f3_; have f4_ := f1_.symm; have f5_ := f3_.symm; clear f1_ f2_ f3_; subst f4_; subst f5_))
      refine hK.out _ _ ⟨(blk_cell BK258.out 0).trans rfl, (blk_cell BK258.out 1).trans rfl⟩ (fun hHeld => ?_)
      clear hK K
      refine norm_ (a' := ?_) ?_ ?_
      rotate_left
      ·show Act.put _ (some 36) _ = _
       simp only [Act.put, List.setIfInBounds_toArray, List.set_cons_zero, List.set_cons_succ, i64_w, i32_w]
       rfl
      refine one_ (i := 4) (N := some 37) #[true, true, true, true, true, false, false, false] rfl rfl (one_of HT_.out (by kernel_rfl)) (by decide) (fun K hK => ?_)
      refine goes_ Try.func35 (by kernel_rfl) rfl #[.pointer (some ⟨g, 0, none⟩), .slice Ao46 y279.length co46] (by rfl) rfl rfl (by (try simp only [List.map_toArray, List.map_cons, List.map_nil]); first | done | rfl | (simp only [List.length_drop, List.length_take]; rfl)) ?_
      with_reducible refine (spec_l1PickInt.calls g s0_0 t263 t264 _ _ y279 t282 t283 t284 w0 _ ?side1 ?side2 ?side3 ?side4 ?side5 A40.out).mono ?_
      (case side1 => repeat (first | (with_reducible first | exact HI0.out | apply IsS62.alloc | apply IsS62.drewN | apply IsS62.drew | apply IsS62.set_1 | apply IsS62.set_2 | refine IsS62.far ?_ NB0_251.out _ | refine IsS62.far ?_ NB0_258.out _) | exact HI0.out))
      (case side2 => repeat (first | (with_reducible first | exact HB.out | apply below_alloc | apply pw_below_drewN | apply below_drew1 | refine below_set ?_ (IsS62.ge HI0.out) | refine below_set ?_ GE251.out | refine below_set ?_ GE258.out) | exact HB.out))
      (case side3 => repeat (first | exact (Kd.R_reads' HO281.out).2.2 | (with_reducible refine Kd.C_alloc ?_ _) | (with_reducible refine Kd.C_drewN ?_ _) | (with_reducible refine Kd.C_drew ?_)))
      (case side4 => exact (Kd.R_reads' HO281.out).2.1)
      (case side5 => exact far_slice (IsS62.own_ne HI0.out HO281.out (by decide)))
      rintro e w47 ⟨rfl, hi, hb, hk⟩
      refine ⟨_, rfl, ?_⟩
      have n_ := an (KeepBut.blk hk (blk_nw BK251.out) NB251_0.out (by simp)) (an (Kd.R_mono (Kd.R_keep (IsS62.apart (show IsS62 w0 _ g s0_0 t263 t264 from by repeat (first | (with_reducible first | exact HI0.out | apply IsS62.alloc | apply IsS62.drewN | apply IsS62.drew | apply IsS62.set_1 | apply IsS62.set_2 | refine IsS62.far ?_ NB0_251.out _ | refine IsS62.far ?_ NB0_258.out _) | exact HI0.out)) (by exact Kd.R_nw HO255.out) (by decide)) hk (fun _ h => h.2)) (fun _ h => h.1)) (an (KeepBut.blk hk (blk_nw BK258.out) NB258_0.out (by simp)) (an (Kd.R_mono (Kd.R_keep (IsS62.apart (show IsS62 w0 _ g s0_0 t263 t264 from by repeat (first | (with_reducible first | exact HI0.out | apply IsS62.alloc | apply IsS62.drewN | apply IsS62.drew | apply IsS62.set_1 | apply IsS62.set_2 | refine IsS62.far ?_ NB0_251.out _ | refine IsS62.far ?_ NB0_258.out _) | exact HI0.out)) (by exact Kd.R_nw HO281.out) (by decide)) hk (fun _ h => h.2)) (fun _ h => h.1)) (an (KeepBut.trans (by repeat (first | (with_reducible first | exact HK.out | apply KeepBut.set_ | apply keep_drewN | apply keep_drew | apply keep_alloc | refine keep_far ?_ GW251.out _ | refine keep_far ?_ GW258.out _) | exact HK.out)) hk (.inl rfl)) (an (hb) (an (hi) (trivial)))))))
      clear BK251 HO255 BK258 HO281 HK HB HI0
      obtain ⟨BK251, HO255, BK258, HO281, HK, HB, HI0, -⟩ := n_
      (try clear hb); (try clear hb2); (try clear hk); (try clear hi)
      have p42 : 0 ≤ (0 : Int) := (by omega)
      have q42 : (0 : Int) < ((t253.length : Int) : Int) := of_decide_eq_true (by first | (with_reducible assumption) | assumption)
      have qi42 : (0 < t253.length) = True := eq_true (by omega)
      obtain ⟨go42, co42, eo42, gb42, gl42, cl42, HG42⟩ := Kd.R_form HO255.out (by omega)
      (first | cases eo42 | (injection eo42 with ea_ en_ ec_; (first | subst ea_ | (injection ea_ with ea_; subst ea_)); subst ec_; clear en_))
      have GB42 := Aside0.mk gb42; have GG42 := Aside0.mk HG42; clear gb42 gl42 HG42
      obtain ⟨ce42, hcl42, hM42, hcc42, hfr42⟩ := Kd.R_elem HO255.out z40 (0 : Int) p42 q42
      obtain rfl := k40_openM hM42
      have hx42_0 : World.cell? _ ⟨go42, (0 : Int).toNat * 3, none⟩ = some (.int .i64 ((rd_T40 t253 0).f0)) := hcc42 0 _ rfl
      have hx42_1 : World.cell? _ ⟨go42, (0 : Int).toNat * 3 + 1, none⟩ = some (.int .i64 ((rd_T40 t253 0).f1)) := hcc42 1 _ rfl
      have hx42_2 : World.cell? _ ⟨go42, (0 : Int).toNat * 3 + 2, none⟩ = some (.int .i64 ((rd_T40 t253 0).f2)) := hcc42 2 _ rfl
      have hf42_0 : World.frozen? _ ⟨go42, (0 : Int).toNat * 3, none⟩ = false := hfr42 0
      have hf42_1 : World.frozen? _ ⟨go42, (0 : Int).toNat * 3 + 1, none⟩ = false := hfr42 1
      have hf42_2 : World.frozen? _ ⟨go42, (0 : Int).toNat * 3 + 2, none⟩ = false := hfr42 2
      clear hcl42 hcc42 hfr42 hM42
      (try rw [show ((0 : Int)).toNat = 0 from rfl] at hx42_0)
      (try simp only [Nat.reduceMul, Nat.zero_mul, Nat.zero_add, Nat.reduceAdd] at hx42_0)
      (try rw [show ((0 : Int)).toNat = 0 from rfl] at hf42_0)
      (try simp only [Nat.reduceMul, Nat.zero_mul, Nat.zero_add, Nat.reduceAdd] at hf42_0)
      (try rw [show ((0 : Int)).toNat = 0 from rfl] at hx42_1)
      (try simp only [Nat.reduceMul, Nat.zero_mul, Nat.zero_add, Nat.reduceAdd] at hx42_1)
      (try rw [show ((0 : Int)).toNat = 0 from rfl] at hf42_1)
      (try simp only [Nat.reduceMul, Nat.zero_mul, Nat.zero_add, Nat.reduceAdd] at hf42_1)
      (try rw [show ((0 : Int)).toNat = 0 from rfl] at hx42_2)
      (try simp only [Nat.reduceMul, Nat.zero_mul, Nat.zero_add, Nat.reduceAdd] at hx42_2)
      (try rw [show ((0 : Int)).toNat = 0 from rfl] at hf42_2)
      (try simp only [Nat.reduceMul, Nat.zero_mul, Nat.zero_add, Nat.reduceAdd] at hf42_2)
      replace p42 := eq_true p42
      replace q42 := eq_true q42
      have HN0_go42 := Aside0.mk (show g ≠ go42 from by have h_ := IsS62.own_ne HI0.out HO255.out (by decide); intro e_; exact h_ (by rw [e_]; rfl))
      obtain ⟨ce48, hcl48, hM48, hcc48, hfr48⟩ := Kd.R_elem HO255.out z40 (0 : Int) (by omega) (by have h_ : (0 : Int) < ((t253.length : Int) : Int) := of_decide_eq_true (by first | (with_reducible assumption) | assumption); first | exact h_ | (have e_ := (Kd.R_reads' HO255.out).1; omega) | simpa using h_)
      obtain rfl := k40_openM hM48
      have HP48 := (Kd.R_seg HO255.out (0 : Int) (by omega) (by have h_ : (0 : Int) < ((t253.length : Int) : Int) := of_decide_eq_true (by first | (with_reducible assumption) | assumption); first | exact h_ | (have e_ := (Kd.R_reads' HO255.out).1; omega) | simpa using h_) (seg := [.int .i64 t282]) (j := 1) hcl48 hcc48 (show 2 ≤ 3 from by decide) (x' := (⟨(rd_T40 t253 0).f0, t282, (rd_T40 t253 0).f2⟩ : S40)) (k40_mkM _ _ _ (⟨(rd_T40 t253 0).f0, t282, (rd_T40 t253 0).f2⟩ : S40) ) (fun _ hk => hk)).1
      rw [← Ny285.out] at HP48
      have HQ48 := Aside0.mk HP48; clear hcl48 hcc48 hfr48 hM48 HP48
      refine hK.out _ _ ⟨(blk_cell BK258.out 0).trans rfl, (blk_cell BK258.out 1).trans rfl⟩ (fun hHeld => ?_)
      clear hK K
      refine norm_ (a' := ?_) ?_ ?_
      rotate_left
      ·show Act.put _ (some 37) _ = _
       simp only [Act.put, List.setIfInBounds_toArray, List.set_cons_zero, List.set_cons_succ, i64_w, i32_w]
       rfl
      refine pure_ (i := 5) (N := some 38) (v := ?_) (a' := ?_) #[true, true, true, true, true, true, false, false] rfl rfl (any_of HT_.out (by kernel_rfl)) (fun _ _ _ h => h) (Or.inl ⟨by rfl, ?_⟩) ?_ ?_
      rotate_left
      ·intro w'
       go_simp
       with_reducible rfl
      rotate_left
      ·simp only [Act.put, List.setIfInBounds_toArray, List.set_cons_zero, List.set_cons_succ, i64_w, i32_w]
       rfl
      refine pure_ (i := 6) (N := some 39) (v := ?_) (a' := ?_) #[true, true, true, true, true, true, true, false] rfl rfl (any_of HT_.out (by kernel_rfl)) (fun _ _ _ h => h) (Or.inl ⟨by rfl, ?_⟩) ?_ ?_
      rotate_left
      ·intro w'
       go_simp
       with_reducible rfl
      rotate_left
      ·simp only [Act.put, List.setIfInBounds_toArray, List.set_cons_zero, List.set_cons_succ, i64_w, i32_w]
       rfl
      refine last_ (i := 7) (N := none) #[true, true, true, true, true, true, true, true] rfl rfl (one_of HT_.out (by kernel_rfl)) (by decide) (fun K hK => ?_)
      refine skip_ (w1 := ?_) (by rfl) rfl ?_ ?_
      rotate_left
      ·go_simp
       rfl
      refine hK.out _ _ ?_
      clear hK K
      refine done_ (done_of HT_.out (by kernel_rfl)) ?_
      have n0_ : Aside0 (Kd.R k40 40 (w47.setCell ⟨go42, 1, none⟩ (.int .i64 t282)) w.heap.size (fun _ => True) (.slice (some ⟨go42, 0, none⟩) t253.length co10) y285) := ⟨by (with_reducible repeat (first | apply Kd.R_alloc | apply Kd.R_drewN | apply Kd.R_drew)); exact HQ48.out⟩
      have n1_ : Aside0 (Kd.R (Kd.int .i64) 3 (w47.setCell ⟨go42, 1, none⟩ (.int .i64 t282)) w.heap.size (fun _ => True) (.slice Ao46 y279.length co46) y279) := ⟨by (with_reducible repeat (first | apply Kd.R_alloc | apply Kd.R_drewN | apply Kd.R_drew)); exact Kd.R_mono (Kd.R_far (p := ⟨go42, 1, none⟩) (Kd.R_types HO281.out GG42.out (by decide)) (fun _ hk => hk.2) (.int .i64 t282)) (fun _ hk => trivial)⟩
      have n2_ : Aside0 ((w47.setCell ⟨go42, 1, none⟩ (.int .i64 t282)).heap[gb251]? = some (.cells #[.int .i64 0, .slice none 0 0] 28 (0, 0))) := ⟨by (with_reducible repeat (first | refine blk_drewN ?_ _ | refine blk_drew ?_ | refine blk_alloc ?_ _)); refine blk_far ?_ (by have h_ := Kd.R_ne HO255.out BK251.out (by decide); intro e_; exact h_ (by rw [e_]; rfl)) _; (with_reducible repeat (first | refine blk_drewN ?_ _ | refine blk_drew ?_ | refine blk_alloc ?_ _)); exact BK251.out⟩
      have n3_ : Aside0 ((w47.setCell ⟨go42, 1, none⟩ (.int .i64 t282)).heap[gb258]? = some (.cells #[.int .i64 t252, .slice (some ⟨go42, 0, none⟩) t253.length co10] 28 (0, 0))) := ⟨by (with_reducible repeat (first | refine blk_drewN ?_ _ | refine blk_drew ?_ | refine blk_alloc ?_ _)); refine blk_far ?_ (by have h_ := Kd.R_ne HO255.out BK258.out (by decide); intro e_; exact h_ (by rw [e_]; rfl)) _; (with_reducible repeat (first | refine blk_drewN ?_ _ | refine blk_drew ?_ | refine blk_alloc ?_ _)); exact BK258.out⟩
      have n4_ : Aside0 (IsS62 w0 (w47.setCell ⟨go42, 1, none⟩ (.int .i64 t282)) g s0_0 t283 t284) := ⟨by repeat (first | (with_reducible first | exact HI0.out | apply IsS62.alloc | apply IsS62.drewN | apply IsS62.drew | apply IsS62.set_1 | apply IsS62.set_2 | refine IsS62.far ?_ HN0_go42.out _ | refine IsS62.far ?_ NB0_251.out _ | refine IsS62.far ?_ NB0_258.out _) | exact HI0.out)⟩
      have n5_ : Aside0 (KeepBut w (w47.setCell ⟨go42, 1, none⟩ (.int .i64 t282)) g none) := ⟨by repeat (first | (with_reducible first | exact HK.out | apply KeepBut.set_ | apply keep_drewN | apply keep_drew | apply keep_alloc | refine keep_far ?_ GB42.out _ | refine keep_far ?_ GW251.out _ | refine keep_far ?_ GW258.out _) | exact HK.out)⟩
      have n6_ : Aside0 (Below w0.heap.size w0 (w47.setCell ⟨go42, 1, none⟩ (.int .i64 t282))) := ⟨by repeat (first | (with_reducible first | exact HB.out | apply below_alloc | apply pw_below_drewN | apply below_drew1 | refine below_set ?_ (Nat.le_trans HL.out GB42.out) | refine below_set ?_ (IsS62.ge HI0.out) | refine below_set ?_ GE251.out | refine below_set ?_ GE258.out) | exact HB.out)⟩
      (try clear HO255); (try clear HO281); (try clear BK251); (try clear BK258); (try clear HI0); (try clear HK); (try clear HB)
      generalize (w47.setCell ⟨go42, 1, none⟩ (.int .i64 t282)) = w49 at n0_ n1_ n2_ n3_ n4_ n5_ n6_ ⊢
      have HO255 := n0_
      have HO281 := n1_
      have BK251 := n2_
      have BK258 := n3_
      have HI0 := n4_
      have HK := n5_
      have HB := n6_
      clear n0_ n1_ n2_ n3_ n4_ n5_ n6_; have hnb50 := NB258_251.out; have hnc50 := NB251_258.out; have hnb51 := NB258_0.out; have hnc51 := NB0_258.out; obtain ⟨hcz52_0, hcz52_1⟩ := blkz2 BK258.out; have hfz52_0 := blkf BK258.out; have hnb53 := NB251_0.out; have hnc53 := NB0_251.out; obtain ⟨hcz54_0, hcz54_1⟩ := blkz2 BK251.out; have hfz54_0 := blkf BK251.out
      try go_wp2
      refine bodyPost_ret (results_cell_row rfl _ _ gb251 28 #[.int .i64 t252, .slice (some ⟨go42, 0, none⟩) t253.length co10] (0, 0) _ rfl (by (with_reducible repeat (first | refine blk_drewN ?_ _ | refine blk_drew ?_ | refine blk_alloc ?_ _)); exact blk_fill2 BK251.out) Try.underlying28 rfl (by kernel_rfl)) rfl ?_
      exact ⟨_, by first | rfl | (simp [errW_none, errW_some] <;> rfl) | (simp [*, errW_none, errW_some] <;> rfl), Kd.Q_of_R (by exact (Kd.R_farN HO255.out BK251.out)), by repeat (first | (with_reducible first | exact HI0.out | apply IsS62.alloc | apply IsS62.drewN | apply IsS62.drew | apply IsS62.set_1 | apply IsS62.set_2 | refine IsS62.far ?_ NB0_251.out _ | refine IsS62.far ?_ NB0_258.out _) | exact HI0.out), by repeat (first | (with_reducible first | exact HB.out | apply below_alloc | apply pw_below_drewN | apply below_drew1 | refine below_set ?_ (IsS62.ge HI0.out) | refine below_set ?_ GE251.out | refine below_set ?_ GE258.out) | exact HB.out), by repeat (first | (with_reducible first | exact HK.out | apply KeepBut.set_ | apply keep_drewN | apply keep_drew | apply keep_alloc | refine keep_far ?_ GW251.out _ | refine keep_far ?_ GW258.out _) | exact HK.out)⟩
     ·rw [if_neg c41] at H
      exact absurd H (by simp)
    ·rw [if_neg c39] at H; have c39b0 : (t262 == 2) = false := beq_eq_false_iff_ne.mpr c39; have c39b1 : (t262 != 2) = true := bne_iff_ne.mpr c39
     by_cases c55 : t262 = 3
     ·rw [if_pos c55] at H; have c55b0 : (t262 == 3) = true := beq_iff_eq.mpr c55; have c55b1 : (t262 != 3) = false := bne_eq_false_iff_eq.mpr c55; clear c55
      obtain ⟨y286, hy286⟩ : ∃ y_ : List Int, y_ = (([(-1), 1000, 1001] : List Int)) := ⟨_, rfl⟩
      replace H : ((spec_l1PickInt.f s0_0 t263 t264 y286).bind fun bt289 => (if 0 < (t253.length : Int) then (some (t252, (t253.set (0 : Int).toNat (⟨(rd_T40 t253 0).f0, (rd_T40 t253 0).f1, bt289.1⟩ : S40)), bt289.2.1, bt289.2.2)) else (none))) = some (r1, r2, r3, r4) := by first | (rw [hy286]; with_reducible exact H) | (rw [hy286]; exact H) | exact H
      have Ny286 := Aside0.mk hy286; clear hy286; replace H := Option.bind_eq_some_iff.mp H
      obtain ⟨⟨t289, t290, t291⟩, A560, H⟩ := H
      replace H : (if 0 < (t253.length : Int) then (some (t252, (t253.set (0 : Int).toNat (⟨(rd_T40 t253 0).f0, (rd_T40 t253 0).f1, t289⟩ : S40)), t290, t291)) else (none)) = some (r1, r2, r3, r4) := H
      have A56 := Aside0.mk A560; clear A560
      by_cases c57 : 0 < (t253.length : Int)
      ·rw [if_pos c57] at H
       have c57b0 : decide (0 < (t253.length : Int)) = true := decide_eq_true c57
       have c57b1 : decide (0 < t253.length) = true := decide_eq_true (by omega)
       clear c57; (try simp only [c57b0])
       obtain ⟨y292, hy292⟩ : ∃ y_ : List (S40), y_ = (t253.set (0 : Int).toNat (⟨(rd_T40 t253 0).f0, (rd_T40 t253 0).f1, t289⟩ : S40)) := ⟨_, rfl⟩
       replace H : (some (t252, y292, t290, t291)) = some (r1, r2, r3, r4) := by first | (rw [hy292]; with_reducible exact H) | (rw [hy292]; exact H) | exact H
       have Ny292 := Aside0.mk hy292; clear hy292; simp only [Option.some.injEq, Prod.mk.injEq] at H; obtain ⟨rfl, rfl, rfl, rfl⟩ := H
       try go_wp2
       have n_ := an (Kd.R_drew HO255.out) (an (blk_drew BK251.out) (an (blk_drew BK258.out) (an (IsS62.drew HI0.out) (an (keep_drew HK.out) (an (below_drew1 HB.out) (trivial))))))
       clear HO255 BK251 BK258 HI0 HK HB
       obtain ⟨HO255, BK251, BK258, HI0, HK, HB, -⟩ := n_
       refine start_ (n := 8) (S := fun w' => w'.cell? ⟨gb258, 0, none⟩ = some (.int .i64 t252) ∧ w'.cell? ⟨gb258, 1, none⟩ = some (.slice Ao10 t253.length co10)) (ds := [7]) #[false, false, false, false, false, false, false, false] (by kernel_rfl) rfl rfl ⟨(blk_cell BK258.out 0).trans rfl, (blk_cell BK258.out 1).trans rfl⟩ (fun hHeld => ?_); refine with_tabW spec_l10bent.tab13 spec_l10bent.bits13 (fun HT_ HW_ => ?_)
       generalize w14.drew = w59 at HO255 BK251 BK258 HI0 HK HB hHeld ⊢
       refine pure_ (i := 0) (N := some 42) (v := ?_) (a' := ?_) #[true, false, false, false, false, false, false, false] rfl rfl (any_of HT_.out (by kernel_rfl)) (fun _ _ _ h => h) (Or.inl ⟨by rfl, ?_⟩) ?_ ?_
       rotate_left
       ·intro w'
        go_simp
        with_reducible rfl
       rotate_left
       ·simp only [Act.put, List.setIfInBounds_toArray, List.set_cons_zero, List.set_cons_succ, i64_w, i32_w]
        rfl
       refine pure_ (i := 2) (N := some 44) (v := ?_) (a' := ?_) #[true, false, true, false, false, false, false, false] rfl rfl (any_of HT_.out (by kernel_rfl)) (fun _ _ _ h => h) (Or.inl ⟨by rfl, ?_⟩) ?_ ?_
       rotate_left
       ·intro w'
        go_simp
        with_reducible rfl
       rotate_left
       ·simp only [Act.put, List.setIfInBounds_toArray, List.set_cons_zero, List.set_cons_succ, i64_w, i32_w]
        rfl
       refine take_ (i := 1) (N := some 43) (v := ?_) (a' := ?_) #[true, true, true, false, false, false, false, false] rfl rfl (take_ofW HT_.out HW_.out (by kernel_rfl)) (fun _ _ _ h => h) (Or.inl ⟨by rfl, ?_⟩) hHeld ?_ ?_
       rotate_left
       ·rintro w' ⟨s0, s1⟩
        go_simp
        with_reducible rfl
       rotate_left
       ·simp only [Act.put, List.setIfInBounds_toArray, List.set_cons_zero, List.set_cons_succ, i64_w, i32_w]
        rfl
       refine one_ (i := 3) (N := some 45) #[true, true, true, true, false, false, false, false] rfl rfl (one_of HT_.out (by kernel_rfl)) (by decide) (fun K hK => ?_)
       refine Kd.R_lit_step (Kd.int .i64) _ 3 ?hg (N := 45) ?hd (xs := ([(-1), 1000, 1001] : List Int)) (inner := [.int .i64 (-1), .int .i64 1000, .int .i64 1001]) (ok := fun _ => True) (okp := fun _ => True) ?hr ?hp (fun _ hk => hk) trivial (Below.refl _ _) (Nat.le_refl _) (by simp) ?_; (case hd => rfl); (case hg => rfl); (case hr => first | (go_simp; done) | (go_simp; rfl)); (case hp => exact (Reps.one (show Kd.M (Kd.int .i64) _ _ _ (-1) [.int .i64 (-1)] from rfl) (Reps.one (show Kd.M (Kd.int .i64) _ _ _ 1000 [.int .i64 1000] from rfl) (Reps.one (show Kd.M (Kd.int .i64) _ _ _ 1001 [.int .i64 1001] from rfl) (Reps.none _ _)))))
       intro v287 w60 ho61 hb hg_ hnew_
       clear hg_ hnew_
       (first | rw [← Ny286.out] at ho61 | (simp only [Int.reduceToNat] at ho61; rw [← Ny286.out] at ho61))
       have n_ := an (Kd.R_below (by exact Kd.R_nw HO255.out) hb) (an (Kd.R_lower ho61 (keep_size (w := w) (g := g) (row := none) (by repeat (first | (with_reducible first | exact HK.out | apply KeepBut.set_ | apply keep_drewN | apply keep_drew | apply keep_alloc | refine keep_far ?_ GW251.out _ | refine keep_far ?_ GW258.out _) | exact HK.out)))) (an (IsS62.below (by repeat (first | (with_reducible first | exact HI0.out | apply IsS62.alloc | apply IsS62.drewN | apply IsS62.drew | apply IsS62.set_1 | apply IsS62.set_2 | refine IsS62.far ?_ NB0_251.out _ | refine IsS62.far ?_ NB0_258.out _) | exact HI0.out)) hb) (an (blk_below (blk_nw BK251.out) hb) (an (blk_below (blk_nw BK258.out) hb) (an (KeepBut.trans (by repeat (first | (with_reducible first | exact HK.out | apply KeepBut.set_ | apply keep_drewN | apply keep_drew | apply keep_alloc | refine keep_far ?_ GW251.out _ | refine keep_far ?_ GW258.out _) | exact HK.out)) (KeepBut.of_below hb g none) (.inl rfl)) (an (below_step (by repeat (first | (with_reducible first | exact HB.out | apply below_alloc | apply pw_below_drewN | apply below_drew1 | refine below_set ?_ (IsS62.ge HI0.out) | refine below_set ?_ GE251.out | refine below_set ?_ GE258.out) | exact HB.out)) hb) (trivial)))))))
       clear HO255 HI0 BK251 BK258 HK HB
       obtain ⟨HO255, HO288, HI0, BK251, BK258, HK, HB, -⟩ := n_
       clear hb ho61
       obtain ⟨Ao62, co62, eo62⟩ := Kd.R_slice HO288.out
       (first | subst eo62 | (injection eo62 with f1_ f2_ f3_; have f4_ := f1_.symm; have f5_ := f3_.symm; clear f1_ f2_ f3_; subst f4_; subst f5_))
       refine hK.out _ _ ⟨(blk_cell BK258.out 0).trans rfl, (blk_cell BK258.out 1).trans rfl⟩ (fun hHeld => ?_)
       clear hK K
       refine norm_ (a' := ?_) ?_ ?_
       rotate_left
       ·show Act.put _ (some 45) _ = _
        simp only [Act.put, List.setIfInBounds_toArray, List.set_cons_zero, List.set_cons_succ, i64_w, i32_w]
        rfl
       refine one_ (i := 4) (N := some 46) #[true, true, true, true, true, false, false, false] rfl rfl (one_of HT_.out (by kernel_rfl)) (by decide) (fun K hK => ?_)
       refine goes_ Try.func35 (by kernel_rfl) rfl #[.pointer (some ⟨g, 0, none⟩), .slice Ao62 y286.length co62] (by rfl) rfl rfl (by (try simp only [List.map_toArray, List.map_cons, List.map_nil]); first | done | rfl | (simp only [List.length_drop, List.length_take]; rfl)) ?_
       with_reducible refine (spec_l1PickInt.calls g s0_0 t263 t264 _ _ y286 t289 t290 t291 w0 _ ?side1 ?side2 ?side3 ?side4 ?side5 A56.out).mono ?_
       (case side1 => repeat (first | (with_reducible first | exact HI0.out | apply IsS62.alloc | apply IsS62.drewN | apply IsS62.drew | apply IsS62.set_1 | apply IsS62.set_2 | refine IsS62.far ?_ NB0_251.out _ | refine IsS62.far ?_ NB0_258.out _) | exact HI0.out))
       (case side2 => repeat (first | (with_reducible first | exact HB.out | apply below_alloc | apply pw_below_drewN | apply below_drew1 | refine below_set ?_ (IsS62.ge HI0.out) | refine below_set ?_ GE251.out | refine below_set ?_ GE258.out) | exact HB.out))
       (case side3 => repeat (first | exact (Kd.R_reads' HO288.out).2.2 | (with_reducible refine Kd.C_alloc ?_ _) | (with_reducible refine Kd.C_drewN ?_ _) | (with_reducible refine Kd.C_drew ?_)))
       (case side4 => exact (Kd.R_reads' HO288.out).2.1)
       (case side5 => exact far_slice (IsS62.own_ne HI0.out HO288.out (by decide)))
       rintro e w63 ⟨rfl, hi, hb, hk⟩
       refine ⟨_, rfl, ?_⟩
       have n_ := an (KeepBut.blk hk (blk_nw BK251.out) NB251_0.out (by simp)) (an (Kd.R_mono (Kd.R_keep (IsS62.apart (show IsS62 w0 _ g s0_0 t263 t264 from by repeat (first | (with_reducible first | exact HI0.out | apply IsS62.alloc | apply IsS62.drewN | apply IsS62.drew | apply IsS62.set_1 | apply IsS62.set_2 | refine IsS62.far ?_ NB0_251.out _ | refine IsS62.far ?_ NB0_258.out _) | exact HI0.out)) (by exact Kd.R_nw HO255.out) (by decide)) hk (fun _ h => h.2)) (fun _ h => h.1)) (an (KeepBut.blk hk (blk_nw BK258.out) NB258_0.out (by simp)) (an (Kd.R_mono (Kd.R_keep (IsS62.apart (show IsS62 w0 _ g s0_0 t263 t264 from by repeat (first | (with_reducible first | exact HI0.out | apply IsS62.alloc | apply IsS62.drewN | apply IsS62.drew | apply IsS62.set_1 | apply IsS62.set_2 | refine IsS62.far ?_ NB0_251.out _ | refine IsS62.far ?_ NB0_258.out _) | exact HI0.out)) (by exact Kd.R_nw HO288.out) (by decide)) hk (fun _ h => h.2)) (fun _ h => h.1)) (an (KeepBut.trans (by repeat (first | (with_reducible first | exact HK.out | apply KeepBut.set_ | apply keep_drewN | apply keep_drew | apply keep_alloc | refine keep_far ?_ GW251.out _ | refine keep_far ?_ GW258.out _) | exact HK.out)) hk (.inl rfl)) (an (hb) (an (hi) (trivial)))))))
       clear BK251 HO255 BK258 HO288 HK HB HI0
       obtain ⟨BK251, HO255, BK258, HO288, HK, HB, HI0, -⟩ := n_
       (try clear hb); (try clear hb2); (try clear hk); (try clear hi)
       have p58 : 0 ≤ (0 : Int) := (by omega)
       have q58 : (0 : Int) < ((t253.length : Int) : Int) := of_decide_eq_true (by first | (with_reducible assumption) | assumption)
       have qi58 : (0 < t253.length) = True := eq_true (by omega)
       obtain ⟨go58, co58, eo58, gb58, gl58, cl58, HG58⟩ := Kd.R_form HO255.out (by omega)
       (first | cases eo58 | (injection eo58 with ea_ en_ ec_; (first | subst ea_ | (injection ea_ with ea_; subst ea_)); subst ec_; clear en_))
       have GB58 := Aside0.mk gb58; have GG58 := Aside0.mk HG58; clear gb58 gl58 HG58
       obtain ⟨ce58, hcl58, hM58, hcc58, hfr58⟩ := Kd.R_elem HO255.out z40 (0 : Int) p58 q58
       obtain rfl := k40_openM hM58
       have hx58_0 : World.cell? _ ⟨go58, (0 : Int).toNat * 3, none⟩ = some (.int .i64 ((rd_T40 t253 0).f0)) := hcc58 0 _ rfl
       have hx58_1 : World.cell? _ ⟨go58, (0 : Int).toNat * 3 + 1, none⟩ = some (.int .i64 ((rd_T40 t253 0).f1)) := hcc58 1 _ rfl
       have hx58_2 : World.cell? _ ⟨go58, (0 : Int).toNat * 3 + 2, none⟩ = some (.int .i64 ((rd_T40 t253 0).f2)) := hcc58 2 _ rfl
       have hf58_0 : World.frozen? _ ⟨go58, (0 : Int).toNat * 3, none⟩ = false := hfr58 0
       have hf58_1 : World.frozen? _ ⟨go58, (0 : Int).toNat * 3 + 1, none⟩ = false := hfr58 1
       have hf58_2 : World.frozen? _ ⟨go58, (0 : Int).toNat * 3 + 2, none⟩ = false := hfr58 2
       clear hcl58 hcc58 hfr58 hM58
       (try rw [show ((0 : Int)).toNat = 0 from rfl] at hx58_0)
       (try simp only [Nat.reduceMul, Nat.zero_mul, Nat.zero_add, Nat.reduceAdd] at hx58_0)
       (try rw [show ((0 : Int)).toNat = 0 from rfl] at hf58_0)
       (try simp only [Nat.reduceMul, Nat.zero_mul, Nat.zero_add, Nat.reduceAdd] at hf58_0)
       (try rw [show ((0 : Int)).toNat = 0 from rfl] at hx58_1)
       (try simp only [Nat.reduceMul, Nat.zero_mul, Nat.zero_add, Nat.reduceAdd] at hx58_1)
       (try rw [show ((0 : Int)).toNat = 0 from rfl] at hf58_1)
       (try simp only [Nat.reduceMul, Nat.zero_mul, Nat.zero_add, Nat.reduceAdd] at hf58_1)
       (try rw [show ((0 : Int)).toNat = 0 from rfl] at hx58_2)
       (try simp only [Nat.reduceMul, Nat.zero_mul, Nat.zero_add, Nat.reduceAdd] at hx58_2)
       (try rw [show ((0 : Int)).toNat = 0 from rfl] at hf58_2)
       (try simp only [Nat.reduceMul, Nat.zero_mul, Nat.zero_add, Nat.reduceAdd] at hf58_2)
       replace p58 := eq_true p58
       replace q58 := eq_true q58
       have HN0_go58 := Aside0.mk (show g ≠ go58 from by have h_ := IsS62.own_ne HI0.out HO255.out (by decide); intro e_; exact h_ (by rw [e_]; rfl))
       obtain ⟨ce64, hcl64, hM64, hcc64, hfr64⟩ := Kd.R_elem HO255.out z40 (0 : Int) (by omega) (by have h_ : (0 : Int) < ((t253.length : Int) : Int) := of_decide_eq_true (by first | (with_reducible assumption) | assumption); first | exact h_ | (have e_ := (Kd.R_reads' HO255.out).1; omega) | simpa using h_)
       obtain rfl := k40_openM hM64
       have HP64 := (Kd.R_seg HO255.out (0 : Int) (by omega) (by have h_ : (0 : Int) < ((t253.length : Int) : Int) := of_decide_eq_true (by first | (with_reducible assumption) | assumption); first | exact h_ | (have e_ := (Kd.R_reads' HO255.out).1; omega) | simpa using h_) (seg := [.int .i64 t289]) (j := 2) hcl64 hcc64 (show 3 ≤ 3 from by decide) (x' := (⟨(rd_T40 t253 0).f0, (rd_T40 t253 0).f1, t289⟩ : S40)) (k40_mkM _ _ _ (⟨(rd_T40 t253 0).f0, (rd_T40 t253 0).f1, t289⟩ : S40) ) (fun _ hk => hk)).1
       rw [← Ny292.out] at HP64
       have HQ64 := Aside0.mk HP64; clear hcl64 hcc64 hfr64 hM64 HP64
       refine hK.out _ _ ⟨(blk_cell BK258.out 0).trans rfl, (blk_cell BK258.out 1).trans rfl⟩ (fun hHeld => ?_)
       clear hK K
       refine norm_ (a' := ?_) ?_ ?_
       rotate_left
       ·show Act.put _ (some 46) _ = _
        simp only [Act.put, List.setIfInBounds_toArray, List.set_cons_zero, List.set_cons_succ, i64_w, i32_w]
        rfl
       refine pure_ (i := 5) (N := some 47) (v := ?_) (a' := ?_) #[true, true, true, true, true, true, false, false] rfl rfl (any_of HT_.out (by kernel_rfl)) (fun _ _ _ h => h) (Or.inl ⟨by rfl, ?_⟩) ?_ ?_
       rotate_left
       ·intro w'
        go_simp
        with_reducible rfl
       rotate_left
       ·simp only [Act.put, List.setIfInBounds_toArray, List.set_cons_zero, List.set_cons_succ, i64_w, i32_w]
        rfl
       refine pure_ (i := 6) (N := some 48) (v := ?_) (a' := ?_) #[true, true, true, true, true, true, true, false] rfl rfl (any_of HT_.out (by kernel_rfl)) (fun _ _ _ h => h) (Or.inl ⟨by rfl, ?_⟩) ?_ ?_
       rotate_left
       ·intro w'
        go_simp
        with_reducible rfl
       rotate_left
       ·simp only [Act.put, List.setIfInBounds_toArray, List.set_cons_zero, List.set_cons_succ, i64_w, i32_w]
        rfl
       refine last_ (i := 7) (N := none) #[true, true, true, true, true, true, true, true] rfl rfl (one_of HT_.out (by kernel_rfl)) (by decide) (fun K hK => ?_)
       refine skip_ (w1 := ?_) (by rfl) rfl ?_ ?_
       rotate_left
       ·go_simp
        rfl
       refine hK.out _ _ ?_
       clear hK K
       refine done_ (done_of HT_.out (by kernel_rfl)) ?_
       have n0_ : Aside0 (Kd.R k40 40 (w63.setCell ⟨go58, 2, none⟩ (.int .i64 t289)) w.heap.size (fun _ => True) (.slice (some ⟨go58, 0, none⟩) t253.length co10) y292) := ⟨by (with_reducible repeat (first | apply Kd.R_alloc | apply Kd.R_drewN | apply Kd.R_drew)); exact HQ64.out⟩
       have n1_ : Aside0 (Kd.R (Kd.int .i64) 3 (w63.setCell ⟨go58, 2, none⟩ (.int .i64 t289)) w.heap.size (fun _ => True) (.slice Ao62 y286.length co62) y286) := ⟨by (with_reducible repeat (first | apply Kd.R_alloc | apply Kd.R_drewN | apply Kd.R_drew)); exact Kd.R_mono (Kd.R_far (p := ⟨go58, 2, none⟩) (Kd.R_types HO288.out GG58.out (by decide)) (fun _ hk => hk.2) (.int .i64 t289)) (fun _ hk => trivial)⟩
       have n2_ : Aside0 ((w63.setCell ⟨go58, 2, none⟩ (.int .i64 t289)).heap[gb251]? = some (.cells #[.int .i64 0, .slice none 0 0] 28 (0, 0))) := ⟨by (with_reducible repeat (first | refine blk_drewN ?_ _ | refine blk_drew ?_ | refine blk_alloc ?_ _)); refine blk_far ?_ (by have h_ := Kd.R_ne HO255.out BK251.out (by decide); intro e_; exact h_ (by rw [e_]; rfl)) _; (with_reducible repeat (first | refine blk_drewN ?_ _ | refine blk_drew ?_ | refine blk_alloc ?_ _)); exact BK251.out⟩
       have n3_ : Aside0 ((w63.setCell ⟨go58, 2, none⟩ (.int .i64 t289)).heap[gb258]? = some (.cells #[.int .i64 t252, .slice (some ⟨go58, 0, none⟩) t253.length co10] 28 (0, 0))) := ⟨by (with_reducible repeat (first | refine blk_drewN ?_ _ | refine blk_drew ?_ | refine blk_alloc ?_ _)); refine blk_far ?_ (by have h_ := Kd.R_ne HO255.out BK258.out (by decide); intro e_; exact h_ (by rw [e_]; rfl)) _; (with_reducible repeat (first | refine blk_drewN ?_ _ | refine blk_drew ?_ | refine blk_alloc ?_ _)); exact BK258.out⟩
       have n4_ : Aside0 (IsS62 w0 (w63.setCell ⟨go58, 2, none⟩ (.int .i64 t289)) g s0_0 t290 t291) := ⟨by repeat (first | (with_reducible first | exact HI0.out | apply IsS62.alloc | apply IsS62.drewN | apply IsS62.drew | apply IsS62.set_1 | apply IsS62.set_2 | refine IsS62.far ?_ HN0_go58.out _ | refine IsS62.far ?_ NB0_251.out _ | refine IsS62.far ?_ NB0_258.out _) | exact HI0.out)⟩
       have n5_ : Aside0 (KeepBut w (w63.setCell ⟨go58, 2, none⟩ (.int .i64 t289)) g none) := ⟨by repeat (first | (with_reducible first | exact HK.out | apply KeepBut.set_ | apply keep_drewN | apply keep_drew | apply keep_alloc | refine keep_far ?_ GB58.out _ | refine keep_far ?_ GW251.out _ | refine keep_far ?_ GW258.out _) | exact HK.out)⟩
       have n6_ : Aside0 (Below w0.heap.size w0 (w63.setCell ⟨go58, 2, none⟩ (.int .i64 t289))) := ⟨by repeat (first | (with_reducible first | exact HB.out | apply below_alloc | apply pw_below_drewN | apply below_drew1 | refine below_set ?_ (Nat.le_trans HL.out GB58.out) | refine below_set ?_ (IsS62.ge HI0.out) | refine below_set ?_ GE251.out | refine below_set ?_ GE258.out) | exact HB.out)⟩
       (try clear HO255); (try clear HO288); (try clear BK251); (try clear BK258); (try clear HI0); (try clear HK); (try clear HB)
       generalize (w63.setCell ⟨go58, 2, none⟩ (.int .i64 t289)) = w65 at n0_ n1_ n2_ n3_ n4_ n5_ n6_ ⊢
       have HO255 := n0_
       have HO288 := n1_
       have BK251 := n2_
       have BK258 := n3_
       have HI0 := n4_
       have HK := n5_
       have HB := n6_
       clear n0_ n1_ n2_ n3_ n4_ n5_ n6_; have hnb66 := NB258_251.out; have hnc66 := NB251_258.out; have hnb67 := NB258_0.out; have hnc67 := NB0_258.out; obtain ⟨hcz68_0, hcz68_1⟩ := blkz2 BK258.out; have hfz68_0 := blkf BK258.out; have hnb69 := NB251_0.out; have hnc69 := NB0_251.out; obtain ⟨hcz70_0, hcz70_1⟩ := blkz2 BK251.out; have hfz70_0 := blkf BK251.out
       try go_wp2
       refine bodyPost_ret (results_cell_row rfl _ _ gb251 28 #[.int .i64 t252, .slice (some ⟨go58, 0, none⟩) t253.length co10] (0, 0) _ rfl (by (with_reducible repeat (first | refine blk_drewN ?_ _ | refine blk_drew ?_ | refine blk_alloc ?_ _)); exact blk_fill2 BK251.out) Try.underlying28 rfl (by kernel_rfl)) rfl ?_
       exact ⟨_, by first | rfl | (simp [errW_none, errW_some] <;> rfl) | (simp [*, errW_none, errW_some] <;> rfl), Kd.Q_of_R (by exact (Kd.R_farN HO255.out BK251.out)), by repeat (first | (with_reducible first | exact HI0.out | apply IsS62.alloc | apply IsS62.drewN | apply IsS62.drew | apply IsS62.set_1 | apply IsS62.set_2 | refine IsS62.far ?_ NB0_251.out _ | refine IsS62.far ?_ NB0_258.out _) | exact HI0.out), by repeat (first | (with_reducible first | exact HB.out | apply below_alloc | apply pw_below_drewN | apply below_drew1 | refine below_set ?_ (IsS62.ge HI0.out) | refine below_set ?_ GE251.out | refine below_set ?_ GE258.out) | exact HB.out), by repeat (first | (with_reducible first | exact HK.out | apply KeepBut.set_ | apply keep_drewN | apply keep_drew | apply keep_alloc | refine keep_far ?_ GW251.out _ | refine keep_far ?_ GW258.out _) | exact HK.out)⟩
      ·rw [if_neg c57] at H
       exact absurd H (by simp)
     ·rw [if_neg c55] at H; have c55b0 : (t262 == 3) = false := beq_eq_false_iff_ne.mpr c55; have c55b1 : (t262 != 3) = true := bne_iff_ne.mpr c55
      by_cases c71 : 1 ≤ (t253.length : Int)
      ·rw [if_pos c71] at H
       have c71b0 := eq_true c71
       have c71b1 : decide (1 ≤ (t253.length : Int)) = true := decide_eq_true c71
       clear c71
       obtain ⟨y293, hy293⟩ : ∃ y_ : List (S40), y_ = (t253.drop (1 : Int).toNat) := ⟨_, rfl⟩
       replace H : (some (t252, y293, t263, t264)) = some (r1, r2, r3, r4) := by first | (rw [hy293]; with_reducible exact H) | (rw [hy293]; exact H) | exact H
       have Ny293 := Aside0.mk hy293; clear hy293; simp only [Option.some.injEq, Prod.mk.injEq] at H; obtain ⟨rfl, rfl, rfl, rfl⟩ := H; have hnb72 := NB258_251.out; have hnc72 := NB251_258.out; have hnb73 := NB258_0.out; have hnc73 := NB0_258.out; obtain ⟨hcz74_0, hcz74_1⟩ := blkz2 BK258.out; have hfz74_0 := blkf BK258.out
       have q75 : (1 : Int) ≤ ((t253.length : Int) : Int) := of_decide_eq_true (by first | (with_reducible assumption) | assumption)
       obtain ⟨i075, hi075, _, hsz75, _⟩ := info_parts info40
       have hcut75 := cut_from (P := Try.prog) 26 40 .i64 Try.underlying26 hi075 3 hsz75 Ao10 t253.length co10 1 (by omega) q75
       have hr75 := Kd.Q_drop (k := (1 : Int).toNat) (Kd.Q_of_R HO255.out) (by omega)
       obtain ⟨A75, hA75⟩ : ∃ A1, A1 = (if co10 = (1 : Int).toNat then Ao10 else (Ao10 : Option Addr).map (·.add ((1 : Int).toNat * 3))) := ⟨_, rfl⟩
       obtain ⟨c75, hc75⟩ : ∃ c1, c1 = co10 - (1 : Int).toNat := ⟨_, rfl⟩
       have hy75 : y293.length = t253.length - (1 : Int).toNat := (by rw [Ny293.out, List.length_drop])
       rw [← Ny293.out] at hr75
       rw [← hy75, ← hA75, ← hc75] at hcut75
       replace hr75 : Kd.Q k40 40 w14 w.heap.size (fun _ => True) (.slice A75 y293.length c75) y293 := (by rw [hA75, hc75, hy75]; exact hr75)
       have HE75 : Aside0 ((Value.slice A75 y293.length c75).ownBlock = (.slice Ao10 t253.length co10 : Value).ownBlock) := ⟨by rw [hA75]; split <;> (cases (Ao10 : Option Addr) <;> rfl)⟩
       clear hy75 hi075 hsz75 HO255 hA75 hc75; have HO295 := Aside0.mk hr75; clear hr75
       replace q75 := eq_true q75
       have hnb76 := NB251_0.out; have hnc76 := NB0_251.out; obtain ⟨hcz77_0, hcz77_1⟩ := blkz2 BK251.out; have hfz77_0 := blkf BK251.out
       go_wp2
       refine bodyPost_ret (results_cell_row rfl _ _ gb251 28 #[.int .i64 t252, .slice A75 y293.length c75] (0, 0) _ rfl (by (with_reducible repeat (first | refine blk_drewN ?_ _ | refine blk_drew ?_ | refine blk_alloc ?_ _)); refine blk_put (cs := #[.int .i64 t252, .slice none 0 0]) ?_ 1 _ rfl; (with_reducible repeat (first | refine blk_drewN ?_ _ | refine blk_drew ?_ | refine blk_alloc ?_ _)); refine blk_put (cs := #[.int .i64 0, .slice none 0 0]) ?_ 0 _ rfl; (with_reducible repeat (first | refine blk_drewN ?_ _ | refine blk_drew ?_ | refine blk_alloc ?_ _)); refine blk_far ?_ NB251_258.out _; (with_reducible repeat (first | refine blk_drewN ?_ _ | refine blk_drew ?_ | refine blk_alloc ?_ _)); exact BK251.out) Try.underlying28 rfl (by kernel_rfl)) rfl ?_
       exact ⟨_, by first | rfl | (simp [errW_none, errW_some] <;> rfl) | (simp [*, errW_none, errW_some] <;> rfl), by (with_reducible repeat (first | apply Kd.Q_alloc | apply Kd.Q_drewN | apply Kd.Q_drew)); exact Kd.Q_mono (Kd.Q_far (p := ⟨gb251, 1, none⟩) (Kd.Q_far (p := ⟨gb251, 0, none⟩) (Kd.Q_far (p := ⟨gb258, 1, none⟩) (Kd.Q_types (Kd.Q_types HO295.out BK258.out (by decide)) BK251.out (by decide)) (fun _ hk => hk.1.2) (.slice A75 y293.length c75)) (fun _ hk => hk.2) (.int .i64 t252)) (fun _ hk => hk.2) (.slice A75 y293.length c75)) (fun _ hk => trivial), by repeat (first | (with_reducible first | exact HI0.out | apply IsS62.alloc | apply IsS62.drewN | apply IsS62.drew | apply IsS62.set_1 | apply IsS62.set_2 | refine IsS62.far ?_ NB0_251.out _ | refine IsS62.far ?_ NB0_258.out _) | exact HI0.out), by repeat (first | (with_reducible first | exact HB.out | apply below_alloc | apply pw_below_drewN | apply below_drew1 | refine below_set ?_ (IsS62.ge HI0.out) | refine below_set ?_ GE251.out | refine below_set ?_ GE258.out) | exact HB.out), by repeat (first | (with_reducible first | exact HK.out | apply KeepBut.set_ | apply keep_drewN | apply keep_drew | apply keep_alloc | refine keep_far ?_ GW251.out _ | refine keep_far ?_ GW258.out _) | exact HK.out)⟩
      ·rw [if_neg c71] at H
       exact absurd H (by simp)
 ·replace c12 := Bool.eq_false_iff.mpr c12
  subst c12
  rw [if_neg (show ¬ (false = true) by decide)] at H
  simp only [Option.some.injEq, Prod.mk.injEq] at H; obtain ⟨rfl, rfl, rfl, rfl⟩ := H; have hnb78 := NB258_251.out; have hnc78 := NB251_258.out; have hnb79 := NB258_0.out; have hnc79 := NB0_258.out; obtain ⟨hcz80_0, hcz80_1⟩ := blkz2 BK258.out; have hfz80_0 := blkf BK258.out; have hnb81 := NB251_0.out; have hnc81 := NB0_251.out; obtain ⟨hcz82_0, hcz82_1⟩ := blkz2 BK251.out; have hfz82_0 := blkf BK251.out
  go_wp2
  refine bodyPost_ret (results_cell_row rfl _ _ gb251 28 #[.int .i64 t252, .slice Ao10 t253.length co10] (0, 0) _ rfl (by (with_reducible repeat (first | refine blk_drewN ?_ _ | refine blk_drew ?_ | refine blk_alloc ?_ _)); exact blk_fill2 BK251.out) Try.underlying28 rfl (by kernel_rfl)) rfl ?_
  exact ⟨_, by first | rfl | (simp [errW_none, errW_some] <;> rfl) | (simp [*, errW_none, errW_some] <;> rfl), Kd.Q_of_R (by exact (Kd.R_farN HO255.out BK251.out)), by repeat (first | (with_reducible first | exact HI0.out | apply IsS62.alloc | apply IsS62.drewN | apply IsS62.drew | apply IsS62.set_1 | apply IsS62.set_2 | refine IsS62.far ?_ NB0_251.out _ | refine IsS62.far ?_ NB0_258.out _) | exact HI0.out), by repeat (first | (with_reducible first | exact HB.out | apply below_alloc | apply pw_below_drewN | apply below_drew1 | refine below_set ?_ (IsS62.ge HI0.out) | refine below_set ?_ GE251.out | refine below_set ?_ GE258.out) | exact HB.out), by repeat (first | (with_reducible first | exact HK.out | apply KeepBut.set_ | apply keep_drewN | apply keep_drew | apply keep_alloc | refine keep_far ?_ GW251.out _ | refine keep_far ?_ GW258.out _) | exact HK.out)⟩

end Go.Proofs.Ytpoedoefbeabkaa.XFnRounds
