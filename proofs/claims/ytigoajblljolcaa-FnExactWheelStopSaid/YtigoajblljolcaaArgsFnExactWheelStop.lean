/- What the arguments of the law FnExactWheelStop are, whatever they are: opened. And what is to be proved of numbers and lists. -/
import Derived.Test.YtigoajblljolcaaOpen
import Derived.Test.YtigoajblljolcaaXFnExactWheelStopx
import Derived.KernelRfl
namespace Go.Proofs.Ytigoajblljolcaa.AFnExactWheelStop
open Go.RowKit Go.Proofs.Ytigoajblljolcaa.Open Go.Proofs.YtigoajblljolcaaW.PrintWords Go.Proofs.YtigoajblljolcaaW.PrintLast Go.Proofs.Ytigoajblljolcaa.XFnExactWheelStop
set_option linter.unusedVariables false
set_option linter.unusedSimpArgs false
def wf170 (x : S170) : Prop := ((Lit.int .i64 x.f0).wf = true) ∧ ((Lit.int .i64 x.f1).wf = true)
theorem cells3 : Try.prog.cellsOf 3 = 1 := by kernel_rfl
theorem cells170 : Try.prog.cellsOf 170 = 2 := by kernel_rfl
theorem open170 {H : Type} {enc : TypeId × Value → H} {W : World} : Opens enc Try.prog W 170 (fun cs => ∃ (a0 : Int) (a1 : Int), cs = [.int .i64 a0, .int .i64 a1] ∧ (Lit.int .i64 a0).wf = true ∧ (Lit.int .i64 a1).wf = true) := by
  refine Opens.struct Try.underlying170 fun cs hl h => ?_
  obtain ⟨z0, z1, rfl⟩ := list2 (hl.trans cells170)
  have h0 := h 0 3 0 1 rfl cells3 _ (Opens.int Try.underlying3)
  simp only [List.drop_succ_cons, List.drop_zero, List.take_succ_cons, List.take_zero] at h0
  obtain ⟨a0, e0, w0⟩ := h0
  obtain rfl := (List.cons.inj e0).1
  have h1 := h 1 3 1 1 rfl cells3 _ (Opens.int Try.underlying3)
  simp only [List.drop_succ_cons, List.drop_zero, List.take_succ_cons, List.take_zero] at h1
  obtain ⟨a1, e1, w1⟩ := h1
  obtain rfl := (List.cons.inj e1).1
  exact ⟨a0, a1, rfl, w0, w1⟩
theorem open48 {H : Type} {enc : TypeId × Value → H} {W : World} : Opens enc Try.prog W 48 (fun cs => ∃ (A0 : Option Addr) (c0 : Nat) (l0 : List (S170)), cs = [.slice A0 l0.length c0] ∧ l0.length ≤ c0 ∧ Kd.C k170 W A0 l0.length l0 ∧ l0.length ≤ 9223372036854775807 ∧ (∀ y ∈ l0, wf170 y)) :=
  Opens.slice (d := k170) (wf := fun y => wf170 y) Try.underlying48 cells170 (open170.imp fun cs ⟨a0, a1, h, w0, w1⟩ => ⟨(⟨a0, a1⟩ : S170), h ▸ k170_mk W _ , ⟨w0, w1⟩⟩)
theorem cells48 : Try.prog.cellsOf 48 = 1 := by kernel_rfl
theorem cells50 : Try.prog.cellsOf 50 = 2 := by kernel_rfl
theorem open50 {H : Type} {enc : TypeId × Value → H} {W : World} : Opens enc Try.prog W 50 (fun cs => ∃ (a0 : Int) (A1 : Option Addr) (c1 : Nat) (l1 : List (S170)), cs = [.int .i64 a0, .slice A1 l1.length c1] ∧ (Lit.int .i64 a0).wf = true ∧ l1.length ≤ c1 ∧ Kd.C k170 W A1 l1.length l1 ∧ l1.length ≤ 9223372036854775807 ∧ (∀ y ∈ l1, wf170 y)) := by
  refine Opens.struct Try.underlying50 fun cs hl h => ?_
  obtain ⟨z0, z1, rfl⟩ := list2 (hl.trans cells50)
  have h0 := h 0 3 0 1 rfl cells3 _ (Opens.int Try.underlying3)
  simp only [List.drop_succ_cons, List.drop_zero, List.take_succ_cons, List.take_zero] at h0
  obtain ⟨a0, e0, w0⟩ := h0
  obtain rfl := (List.cons.inj e0).1
  have h1 := h 1 48 1 1 rfl cells48 _ open48
  simp only [List.drop_succ_cons, List.drop_zero, List.take_succ_cons, List.take_zero] at h1
  obtain ⟨A1, c1, l1, e1, hc1, hr1, hn1, hw1⟩ := h1
  obtain rfl := (List.cons.inj e1).1
  exact ⟨a0, A1, c1, l1, rfl, w0, hc1, hr1, hn1, hw1⟩
/-- What is left to prove: numbers and lists alone, no memory. -/
def Stmt : Prop := ∀ (a0_0 : Int) (l0_1 : List (S170)) (a1 : Int), (Lit.int .i64 a0_0).wf = true → l0_1.length ≤ 9223372036854775807 → (∀ y ∈ l0_1, wf170 y) → (Lit.int .i64 a1).wf = true → ∃ k, laws_FnExactWheelStop.f k a0_0 l0_1 a1 = some true
end Go.Proofs.Ytigoajblljolcaa.AFnExactWheelStop
