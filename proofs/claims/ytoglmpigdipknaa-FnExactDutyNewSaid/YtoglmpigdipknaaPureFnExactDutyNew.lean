/- The program's DutyNew gives what the reference's DutyNew gives, for every argument; its result shares no memory with another result. No condition. -/
import Derived.Test.YtoglmpigdipknaaXFnExactDutyNewx
namespace Go.Proofs.Ytoglmpigdipknaa.Pure
open Go.RowKit Go.Proofs.Ytoglmpigdipknaa.XFnExactDutyNew Go.Proofs.YtoglmpigdipknaaW.PrintWords Go.Proofs.YtoglmpigdipknaaW.PrintLast
set_option linter.unusedSimpArgs false
set_option linter.unusedVariables false
theorem within_eq (a b c : Int) : impl_within.f a b c = some (decide (b ≤ a) && decide (a ≤ c)) := by
  unfold impl_within.f
  by_cases h : b ≤ a <;> simp [h]
theorem wheel_nil (k : Nat) : spec_WheelOk.f (k + 2) 0 [] = some true := by
  simp [spec_WheelOk.f, spec_WheelOk.j0, spec_WheelOk.l0]
theorem duty_nil (k : Nat) (a : Int) : spec_DutyOk.f (k + 2) a 0 [] = some (decide (1 ≤ a) && decide (a ≤ 1000)) := by
  unfold spec_DutyOk.f
  by_cases h1 : a < 1
  · have g : ¬ 1 ≤ a := by omega
    simp [h1, g, spec_DutyOk.j0]
  · have g : 1 ≤ a := by omega
    rw [if_neg h1]
    by_cases h2 : a > 1000
    · have g2 : ¬ a ≤ 1000 := by omega
      rw [if_pos h2]
      simp [g, g2, spec_DutyOk.j0]
    · have g2 : a ≤ 1000 := by omega
      rw [if_neg h2, wheel_nil]
      simp [g, g2, spec_DutyOk.j0, spec_DutyOk.l0]
theorem specNew_eq (k : Nat) (a : Int) : spec_DutyNew.f (k + 2) a = some (if 1 ≤ a ∧ a ≤ 1000 then (a, 0, [], true) else (0, 0, [], false)) := by
  unfold spec_DutyNew.f
  rw [duty_nil]
  by_cases h1 : 1 ≤ a <;> by_cases h2 : a ≤ 1000 <;> simp [h1, h2]
theorem implNew_eq (a : Int) : impl_DutyNew.f a = some (if 1 ≤ a ∧ a ≤ 1000 then (a, 0, [], true) else (0, 0, [], false)) := by
  unfold impl_DutyNew.f
  rw [within_eq]
  by_cases h1 : 1 ≤ a <;> by_cases h2 : a ≤ 1000 <;> simp [h1, h2]
theorem eqDuty_nil (k : Nat) (a b : Int) : laws_eqDuty.f (k + 1) a b [] a b [] = some true := by
  simp [laws_eqDuty.f, laws_eqWheel.f, laws_eqTimerS.f, laws_eqTimerS.l0]
theorem markDuty_nil (k : Nat) (a b x : Int) : laws_markDuty.f (k + 1) a b [] x = some (x, []) := by
  simp [laws_markDuty.f, laws_markWheel.f, laws_markTimerS.f, laws_markTimerS.l0]
theorem heldDuty_nil (k : Nat) (a b : Int) : laws_heldDuty.f (k + 1) a b [] 1 = some 1 := by
  simp [laws_heldDuty.f, laws_heldWheel.f, laws_heldTimerS.f, laws_heldTimerS.l0]
theorem FnExactDutyNew : laws_FnExactDutyNew.Pure := by
  intro a _
  refine ⟨5, ?_⟩
  unfold laws_FnExactDutyNew.f
  rw [specNew_eq 3 a, implNew_eq a]
  by_cases h : 1 ≤ a ∧ a ≤ 1000
  · simp only [if_pos h, Option.bind_some, eqDuty_nil 4, if_true, bne_self_eq_false]
    simp only [laws_FnExactDutyNew.j0, Bool.false_eq_true, if_false, markDuty_nil 3, heldDuty_nil 3, Option.bind_some, implNew_eq a, if_pos h, eqDuty_nil 3, if_true, bne_self_eq_false]
    simp [laws_FnExactDutyNew.j1, heldDuty_nil 2]
  · simp only [if_neg h, Option.bind_some, eqDuty_nil 4, if_true, bne_self_eq_false]
    simp only [laws_FnExactDutyNew.j0, Bool.false_eq_true, if_false, markDuty_nil 3, heldDuty_nil 3, Option.bind_some, implNew_eq a, if_neg h, eqDuty_nil 3, if_true, bne_self_eq_false]
    simp [laws_FnExactDutyNew.j1, heldDuty_nil 2]

end Go.Proofs.Ytoglmpigdipknaa.Pure
