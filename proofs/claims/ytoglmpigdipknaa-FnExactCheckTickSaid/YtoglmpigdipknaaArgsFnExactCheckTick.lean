/- What the arguments of the law FnExactCheckTick are, whatever they are: opened. And what is to be proved of numbers and lists. -/
import Derived.Test.YtoglmpigdipknaaOpen
import Derived.Test.YtoglmpigdipknaaXFnExactCheckTickx
import Derived.KernelRfl
namespace Go.Proofs.Ytoglmpigdipknaa.AFnExactCheckTick
open Go.RowKit Go.Proofs.Ytoglmpigdipknaa.Open Go.Proofs.YtoglmpigdipknaaW.PrintWords Go.Proofs.YtoglmpigdipknaaW.PrintLast Go.Proofs.Ytoglmpigdipknaa.XFnExactCheckTick
set_option linter.unusedVariables false
set_option linter.unusedSimpArgs false
theorem cells5 : Try.prog.cellsOf 5 = 1 := by kernel_rfl
theorem open22 {H : Type} {enc : TypeId × Value → H} {W : World} : Opens enc Try.prog W 22 (fun cs => ∃ (A0 : Option Addr) (c0 : Nat) (l0 : List Int), cs = [.slice A0 l0.length c0] ∧ l0.length ≤ c0 ∧ Kd.C (Kd.int .u8) W A0 l0.length l0 ∧ l0.length ≤ 9223372036854775807 ∧ (∀ y ∈ l0, (Lit.int .u8 y).wf = true)) :=
  Opens.slice (d := (Kd.int .u8)) (wf := fun y => (Lit.int .u8 y).wf = true) Try.underlying22 cells5 ((Opens.int Try.underlying5).imp fun cs ⟨n, h, w⟩ => ⟨n, h, w⟩)
theorem cells22 : Try.prog.cellsOf 22 = 1 := by kernel_rfl
theorem cells3 : Try.prog.cellsOf 3 = 1 := by kernel_rfl
theorem cells61 : Try.prog.cellsOf 61 = 6 := by kernel_rfl
theorem open61 {H : Type} {enc : TypeId × Value → H} {W : World} : Opens enc Try.prog W 61 (fun cs => ∃ (A0 : Option Addr) (c0 : Nat) (l0 : List Int) (a1 : Int) (a2 : Int) (a3 : Int) (a4 : Int) (a5 : Int), cs = [.slice A0 l0.length c0, .int .i64 a1, .int .i64 a2, .int .i64 a3, .int .i64 a4, .int .i64 a5] ∧ l0.length ≤ c0 ∧ Kd.C (Kd.int .u8) W A0 l0.length l0 ∧ l0.length ≤ 9223372036854775807 ∧ (∀ y ∈ l0, (Lit.int .u8 y).wf = true) ∧ (Lit.int .i64 a1).wf = true ∧ (Lit.int .i64 a2).wf = true ∧ (Lit.int .i64 a3).wf = true ∧ (Lit.int .i64 a4).wf = true ∧ (Lit.int .i64 a5).wf = true) := by
  refine Opens.struct Try.underlying61 fun cs hl h => ?_
  obtain ⟨z0, z1, z2, z3, z4, z5, rfl⟩ := list6 (hl.trans cells61)
  have h0 := h 0 22 0 1 rfl cells22 _ open22
  simp only [List.drop_succ_cons, List.drop_zero, List.take_succ_cons, List.take_zero] at h0
  obtain ⟨A0, c0, l0, e0, hc0, hr0, hn0, hw0⟩ := h0
  obtain rfl := (List.cons.inj e0).1
  have h1 := h 1 3 1 1 rfl cells3 _ (Opens.int Try.underlying3)
  simp only [List.drop_succ_cons, List.drop_zero, List.take_succ_cons, List.take_zero] at h1
  obtain ⟨a1, e1, w1⟩ := h1
  obtain rfl := (List.cons.inj e1).1
  have h2 := h 2 3 2 1 rfl cells3 _ (Opens.int Try.underlying3)
  simp only [List.drop_succ_cons, List.drop_zero, List.take_succ_cons, List.take_zero] at h2
  obtain ⟨a2, e2, w2⟩ := h2
  obtain rfl := (List.cons.inj e2).1
  have h3 := h 3 3 3 1 rfl cells3 _ (Opens.int Try.underlying3)
  simp only [List.drop_succ_cons, List.drop_zero, List.take_succ_cons, List.take_zero] at h3
  obtain ⟨a3, e3, w3⟩ := h3
  obtain rfl := (List.cons.inj e3).1
  have h4 := h 4 3 4 1 rfl cells3 _ (Opens.int Try.underlying3)
  simp only [List.drop_succ_cons, List.drop_zero, List.take_succ_cons, List.take_zero] at h4
  obtain ⟨a4, e4, w4⟩ := h4
  obtain rfl := (List.cons.inj e4).1
  have h5 := h 5 3 5 1 rfl cells3 _ (Opens.int Try.underlying3)
  simp only [List.drop_succ_cons, List.drop_zero, List.take_succ_cons, List.take_zero] at h5
  obtain ⟨a5, e5, w5⟩ := h5
  obtain rfl := (List.cons.inj e5).1
  exact ⟨A0, c0, l0, a1, a2, a3, a4, a5, rfl, hc0, hr0, hn0, hw0, w1, w2, w3, w4, w5⟩
/-- What is left to prove: numbers and lists alone, no memory. -/
def Stmt : Prop := ∀ (l0_0 : List Int) (a0_1 : Int) (a0_2 : Int) (a0_3 : Int) (a0_4 : Int) (a0_5 : Int) (a1 : Int), l0_0.length ≤ 9223372036854775807 → (∀ y ∈ l0_0, (Lit.int .u8 y).wf = true) → (Lit.int .i64 a0_1).wf = true → (Lit.int .i64 a0_2).wf = true → (Lit.int .i64 a0_3).wf = true → (Lit.int .i64 a0_4).wf = true → (Lit.int .i64 a0_5).wf = true → (Lit.int .i64 a1).wf = true → ∃ k, laws_FnExactCheckTick.f k l0_0 a0_1 a0_2 a0_3 a0_4 a0_5 a1 = some true
end Go.Proofs.Ytoglmpigdipknaa.AFnExactCheckTick
