/- What the arguments of the law FnExactDutyOk are, whatever they are: opened. And what is to be proved of numbers and lists. -/
import Derived.Test.YtoglmpigdipknaaOpen
import Derived.Test.YtoglmpigdipknaaXFnExactDutyOkx
import Derived.KernelRfl
namespace Go.Proofs.Ytoglmpigdipknaa.AFnExactDutyOk
open Go.RowKit Go.Proofs.Ytoglmpigdipknaa.Open Go.Proofs.YtoglmpigdipknaaW.PrintWords Go.Proofs.YtoglmpigdipknaaW.PrintLast Go.Proofs.Ytoglmpigdipknaa.XFnExactDutyOk
set_option linter.unusedVariables false
set_option linter.unusedSimpArgs false
def wf147 (x : S147) : Prop := ((Lit.int .i64 x.f0).wf = true) ∧ ((Lit.int .i64 x.f1).wf = true)
theorem cells3 : Try.prog.cellsOf 3 = 1 := by kernel_rfl
theorem cells147 : Try.prog.cellsOf 147 = 2 := by kernel_rfl
theorem open147 {H : Type} {enc : TypeId × Value → H} {W : World} : Opens enc Try.prog W 147 (fun cs => ∃ (a0 : Int) (a1 : Int), cs = [.int .i64 a0, .int .i64 a1] ∧ (Lit.int .i64 a0).wf = true ∧ (Lit.int .i64 a1).wf = true) := by
  refine Opens.struct Try.underlying147 fun cs hl h => ?_
  obtain ⟨z0, z1, rfl⟩ := list2 (hl.trans cells147)
  have h0 := h 0 3 0 1 rfl cells3 _ (Opens.int Try.underlying3)
  simp only [List.drop_succ_cons, List.drop_zero, List.take_succ_cons, List.take_zero] at h0
  obtain ⟨a0, e0, w0⟩ := h0
  obtain rfl := (List.cons.inj e0).1
  have h1 := h 1 3 1 1 rfl cells3 _ (Opens.int Try.underlying3)
  simp only [List.drop_succ_cons, List.drop_zero, List.take_succ_cons, List.take_zero] at h1
  obtain ⟨a1, e1, w1⟩ := h1
  obtain rfl := (List.cons.inj e1).1
  exact ⟨a0, a1, rfl, w0, w1⟩
theorem open86 {H : Type} {enc : TypeId × Value → H} {W : World} : Opens enc Try.prog W 86 (fun cs => ∃ (A0 : Option Addr) (c0 : Nat) (l0 : List (S147)), cs = [.slice A0 l0.length c0] ∧ l0.length ≤ c0 ∧ Kd.C k147 W A0 l0.length l0 ∧ l0.length ≤ 9223372036854775807 ∧ (∀ y ∈ l0, wf147 y)) :=
  Opens.slice (d := k147) (wf := fun y => wf147 y) Try.underlying86 cells147 (open147.imp fun cs ⟨a0, a1, h, w0, w1⟩ => ⟨(⟨a0, a1⟩ : S147), h ▸ k147_mk W _ , ⟨w0, w1⟩⟩)
theorem cells86 : Try.prog.cellsOf 86 = 1 := by kernel_rfl
theorem cells88 : Try.prog.cellsOf 88 = 2 := by kernel_rfl
theorem open88 {H : Type} {enc : TypeId × Value → H} {W : World} : Opens enc Try.prog W 88 (fun cs => ∃ (a0 : Int) (A1 : Option Addr) (c1 : Nat) (l1 : List (S147)), cs = [.int .i64 a0, .slice A1 l1.length c1] ∧ (Lit.int .i64 a0).wf = true ∧ l1.length ≤ c1 ∧ Kd.C k147 W A1 l1.length l1 ∧ l1.length ≤ 9223372036854775807 ∧ (∀ y ∈ l1, wf147 y)) := by
  refine Opens.struct Try.underlying88 fun cs hl h => ?_
  obtain ⟨z0, z1, rfl⟩ := list2 (hl.trans cells88)
  have h0 := h 0 3 0 1 rfl cells3 _ (Opens.int Try.underlying3)
  simp only [List.drop_succ_cons, List.drop_zero, List.take_succ_cons, List.take_zero] at h0
  obtain ⟨a0, e0, w0⟩ := h0
  obtain rfl := (List.cons.inj e0).1
  have h1 := h 1 86 1 1 rfl cells86 _ open86
  simp only [List.drop_succ_cons, List.drop_zero, List.take_succ_cons, List.take_zero] at h1
  obtain ⟨A1, c1, l1, e1, hc1, hr1, hn1, hw1⟩ := h1
  obtain rfl := (List.cons.inj e1).1
  exact ⟨a0, A1, c1, l1, rfl, w0, hc1, hr1, hn1, hw1⟩
theorem cells90 : Try.prog.cellsOf 90 = 3 := by kernel_rfl
theorem open90 {H : Type} {enc : TypeId × Value → H} {W : World} : Opens enc Try.prog W 90 (fun cs => ∃ (a0 : Int) (a1 : Int) (A2 : Option Addr) (c2 : Nat) (l2 : List (S147)), cs = [.int .i64 a0, .int .i64 a1, .slice A2 l2.length c2] ∧ (Lit.int .i64 a0).wf = true ∧ (Lit.int .i64 a1).wf = true ∧ l2.length ≤ c2 ∧ Kd.C k147 W A2 l2.length l2 ∧ l2.length ≤ 9223372036854775807 ∧ (∀ y ∈ l2, wf147 y)) := by
  refine Opens.struct Try.underlying90 fun cs hl h => ?_
  obtain ⟨z0, z1, z2, rfl⟩ := list3 (hl.trans cells90)
  have h0 := h 0 3 0 1 rfl cells3 _ (Opens.int Try.underlying3)
  simp only [List.drop_succ_cons, List.drop_zero, List.take_succ_cons, List.take_zero] at h0
  obtain ⟨a0, e0, w0⟩ := h0
  obtain rfl := (List.cons.inj e0).1
  have h1 := h 1 88 1 2 rfl cells88 _ open88
  simp only [List.drop_succ_cons, List.drop_zero, List.take_succ_cons, List.take_zero] at h1
  obtain ⟨a1, A2, c2, l2, e1, w1, hc2, hr2, hn2, hw2⟩ := h1
  simp only [List.cons.injEq, and_true] at e1
  obtain ⟨rfl, rfl⟩ := e1
  exact ⟨a0, a1, A2, c2, l2, rfl, w0, w1, hc2, hr2, hn2, hw2⟩
/-- What is left to prove: numbers and lists alone, no memory. -/
def Stmt : Prop := ∀ (a0_0 : Int) (a0_1 : Int) (l0_2 : List (S147)), (Lit.int .i64 a0_0).wf = true → (Lit.int .i64 a0_1).wf = true → l0_2.length ≤ 9223372036854775807 → (∀ y ∈ l0_2, wf147 y) → ∃ k, laws_FnExactDutyOk.f k a0_0 a0_1 l0_2 = some true
end Go.Proofs.Ytoglmpigdipknaa.AFnExactDutyOk
