/- What the arguments of the law FnExactBeats are, whatever they are: opened. And what is to be proved of numbers and lists. -/
import Derived.Test.YthgflggeijfbgaaOpen
import Derived.Test.YthgflggeijfbgaaPFnExactBeatsx
import Derived.KernelRfl
namespace Go.Proofs.Ythgflggeijfbgaa.AFnExactBeats
open Go.RowKit Go.Proofs.Ythgflggeijfbgaa.Open Go.Proofs.YthgflggeijfbgaaW.PrintWords Go.Proofs.YthgflggeijfbgaaW.PrintLast Go.Proofs.Ythgflggeijfbgaa.PFnExactBeats
set_option linter.unusedVariables false
set_option linter.unusedSimpArgs false
theorem cells3 : Try.prog.cellsOf 3 = 1 := by kernel_rfl
theorem cells23 : Try.prog.cellsOf 23 = 3 := by kernel_rfl
theorem open23 {H : Type} {enc : TypeId × Value → H} {W : World} : Opens enc Try.prog W 23 (fun cs => ∃ (a0 : Int) (a1 : Int) (a2 : Int), cs = [.int .i64 a0, .int .i64 a1, .int .i64 a2] ∧ (Lit.int .i64 a0).wf = true ∧ (Lit.int .i64 a1).wf = true ∧ (Lit.int .i64 a2).wf = true) := by
  refine Opens.struct Try.underlying23 fun cs hl h => ?_
  obtain ⟨z0, z1, z2, rfl⟩ := list3 (hl.trans cells23)
  have h0 := h 0 3 0 1 rfl cells3 _ (Opens.int Try.underlying3)
  simp only [List.drop_succ_cons, List.drop_zero, List.take_succ_cons, List.take_zero] at h0
  obtain ⟨a0, e0, w0⟩ := h0
  obtain rfl := (List.cons.inj e0).1
  have h1 := h 1 3 1 1 rfl cells3 _ (Opens.int Try.underlying3)
  simp only [List.drop_succ_cons, List.drop_zero, List.take_succ_cons, List.take_zero] at h1
  obtain ⟨a1, e1, w1⟩ := h1
  obtain rfl := (List.cons.inj e1).1
  have h2 := h 2 3 2 1 rfl cells3 _ (Opens.int Try.underlying3)
  simp only [List.drop_succ_cons, List.drop_zero, List.take_succ_cons, List.take_zero] at h2
  obtain ⟨a2, e2, w2⟩ := h2
  obtain rfl := (List.cons.inj e2).1
  exact ⟨a0, a1, a2, rfl, w0, w1, w2⟩
/-- What is left to prove: numbers and lists alone, no memory. -/
def Stmt : Prop := ∀ (a0_0 : Int) (a0_1 : Int) (a0_2 : Int) (a1_0 : Int) (a1_1 : Int) (a1_2 : Int), (Lit.int .i64 a0_0).wf = true → (Lit.int .i64 a0_1).wf = true → (Lit.int .i64 a0_2).wf = true → (Lit.int .i64 a1_0).wf = true → (Lit.int .i64 a1_1).wf = true → (Lit.int .i64 a1_2).wf = true → laws_FnExactBeats.f a0_0 a0_1 a0_2 a1_0 a1_1 a1_2 = some true
end Go.Proofs.Ythgflggeijfbgaa.AFnExactBeats
