-- Written by this session's own program (xprint.py) over the kit's print.
import Derived.Test.YtpoedoefbeabkaaXFnRoundsx0
namespace Go.Proofs.Ytpoedoefbeabkaa.XFnRounds
open Go.RowKit Go.Proofs.YtpoedoefbeabkaaW.PrintWords Go.Proofs.YtpoedoefbeabkaaW.PrintLast Go.Proofs.YtpoedoefbeabkaaW.PrintMore
attribute [local go_sem] max2_int min2_int max_two min_two max_three min_three max_four min_four   -- for this text's walks alone
set_option linter.unusedVariables false
set_option linter.unusedSimpArgs false

/-! ### spec_MemberOk: function 23 -/
def spec_MemberOk.f (a0_0 : Int) (a0_1 : Int) (a0_2 : Int) : Option (Bool) := if a0_0 ≥ 0 then (if a0_0 < 12 then (if a0_1 ≥ 0 then (if a0_1 ≤ 3 then (if a0_2 ≥ 0 then (some (decide (a0_2 ≤ 1000))) else (some false)) else (some false)) else (some false)) else (some false)) else (some false)
set_option maxHeartbeats 8000000 in
set_option maxRecDepth 100000 in
theorem spec_MemberOk.calls (a0_0 : Int) (a0_1 : Int) (a0_2 : Int) (r : Bool) (w : World) (h : spec_MemberOk.f a0_0 a0_1 a0_2 = some r) :
  Calls Try.prog 23 #[.agg #[.int .i64 a0_0, .int .i64 a0_1, .int .i64 a0_2]] w fun e w' => e = .returned (.bool r) ∧ Below w.heap.size w w' := by
 have hu40 := Try.underlying40
 have HB := Aside0.mk (Below.refl w.heap.size w)
 have H : (if a0_0 ≥ 0 then (if a0_0 < 12 then (if a0_1 ≥ 0 then (if a0_1 ≤ 3 then (if a0_2 ≥ 0 then (some (decide (a0_2 ≤ 1000))) else (some false)) else (some false)) else (some false)) else (some false)) else (some false)) = some r := h
 clear h; go_enter Try.func23, Try.ntmps23
 replace H := Aside0.mk H
 go_wp2_with (first | ((with_reducible refine gate_dst (N := 1) rfl ?_); refine box_event ?hg (N := 1) ?hd (cs := #[.int .i64 a0_0, .int .i64 a0_1, .int .i64 a0_2]) (t := 40) ?hr ?_; (case hd => rfl); (case hg => rfl); (case hr => first | (go_simp; done) | (go_simp; rfl)); intro gb187 hg w2 hbox hb; have n_ := an (below_step (by exact bel0) hb) (an (hbox) (an ((by rw [hg]; exact (below_size (by exact bel0)) : w.heap.size ≤ gb187)) (an ((by rw [hg]; exact (below_size (by exact bel0)) : w.heap.size ≤ gb187)) (trivial)))); clear HB; obtain ⟨HB, BK187, GW187, GE187, -⟩ := n_; clear hb hbox hg; obtain ⟨hcz3_0, hcz3_1, hcz3_2⟩ := blkz3 BK187.out; have hfz3_0 := blkf BK187.out; refine Stop.out ?_))
 refine Stop.mk ?_
 replace H := H.out
 by_cases c4 : a0_0 ≥ 0
 ·rw [if_pos c4] at H; have c4b0 : decide (0 ≤ a0_0) = true := decide_eq_true c4; clear c4; (try simp only [c4b0])
  by_cases c5 : a0_0 < 12
  ·rw [if_pos c5] at H; have c5b0 : decide (a0_0 < 12) = true := decide_eq_true c5; clear c5; (try simp only [c5b0])
   by_cases c6 : a0_1 ≥ 0
   ·rw [if_pos c6] at H; have c6b0 : decide (0 ≤ a0_1) = true := decide_eq_true c6; clear c6; (try simp only [c6b0])
    by_cases c7 : a0_1 ≤ 3
    ·rw [if_pos c7] at H; have c7b0 : decide (a0_1 ≤ 3) = true := decide_eq_true c7; clear c7; (try simp only [c7b0])
     by_cases c8 : a0_2 ≥ 0
     ·rw [if_pos c8] at H; have c8b0 : decide (0 ≤ a0_2) = true := decide_eq_true c8; clear c8; (try simp only [c8b0])
      obtain rfl := Option.some.inj H
      obtain ⟨hcz9_0, hcz9_1, hcz9_2⟩ := blkz3 BK187.out; have hfz9_0 := blkf BK187.out
      go_wp2
      go_ret
      exact ⟨by first | rfl | (simp [errW_none, errW_some] <;> rfl) | (simp [*, errW_none, errW_some] <;> rfl), by exact bel0⟩
     ·rw [if_neg c8] at H; have c8b0 : decide (0 ≤ a0_2) = false := decide_eq_false c8; clear c8; (try simp only [c8b0])
      obtain rfl := Option.some.inj H
      obtain ⟨hcz10_0, hcz10_1, hcz10_2⟩ := blkz3 BK187.out; have hfz10_0 := blkf BK187.out
      go_wp2
      go_ret
      exact ⟨by first | rfl | (simp [errW_none, errW_some] <;> rfl) | (simp [*, errW_none, errW_some] <;> rfl), by exact bel0⟩
    ·rw [if_neg c7] at H; have c7b0 : decide (a0_1 ≤ 3) = false := decide_eq_false c7; clear c7; (try simp only [c7b0])
     obtain rfl := Option.some.inj H
     obtain ⟨hcz11_0, hcz11_1, hcz11_2⟩ := blkz3 BK187.out; have hfz11_0 := blkf BK187.out
     go_wp2
     go_ret
     exact ⟨by first | rfl | (simp [errW_none, errW_some] <;> rfl) | (simp [*, errW_none, errW_some] <;> rfl), by exact bel0⟩
   ·rw [if_neg c6] at H; have c6b0 : decide (0 ≤ a0_1) = false := decide_eq_false c6; clear c6; (try simp only [c6b0])
    obtain rfl := Option.some.inj H
    obtain ⟨hcz12_0, hcz12_1, hcz12_2⟩ := blkz3 BK187.out; have hfz12_0 := blkf BK187.out
    go_wp2
    go_ret
    exact ⟨by first | rfl | (simp [errW_none, errW_some] <;> rfl) | (simp [*, errW_none, errW_some] <;> rfl), by exact bel0⟩
  ·rw [if_neg c5] at H; have c5b0 : decide (a0_0 < 12) = false := decide_eq_false c5; clear c5; (try simp only [c5b0])
   obtain rfl := Option.some.inj H
   obtain ⟨hcz13_0, hcz13_1, hcz13_2⟩ := blkz3 BK187.out; have hfz13_0 := blkf BK187.out
   go_wp2
   go_ret
   exact ⟨by first | rfl | (simp [errW_none, errW_some] <;> rfl) | (simp [*, errW_none, errW_some] <;> rfl), by exact bel0⟩
 ·rw [if_neg c4] at H; have c4b0 : decide (0 ≤ a0_0) = false := decide_eq_false c4; clear c4; (try simp only [c4b0])
  obtain rfl := Option.some.inj H
  go_wp2
  go_ret
  exact ⟨by first | rfl | (simp [errW_none, errW_some] <;> rfl) | (simp [*, errW_none, errW_some] <;> rfl), by exact bel0⟩

end Go.Proofs.Ytpoedoefbeabkaa.XFnRounds
