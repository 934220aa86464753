/- What the arguments of the law FnExactCheckNew are, whatever they are: opened. And what is to be proved of numbers and lists. -/
import Derived.Test.YtoglmpigdipknaaOpen
import Derived.Test.YtoglmpigdipknaaXFnExactCheckNewx
import Derived.KernelRfl
namespace Go.Proofs.Ytoglmpigdipknaa.AFnExactCheckNew
open Go.RowKit Go.Proofs.Ytoglmpigdipknaa.Open Go.Proofs.YtoglmpigdipknaaW.PrintWords Go.Proofs.YtoglmpigdipknaaW.PrintLast Go.Proofs.Ytoglmpigdipknaa.XFnExactCheckNew
set_option linter.unusedVariables false
set_option linter.unusedSimpArgs false
theorem cells5 : Try.prog.cellsOf 5 = 1 := by kernel_rfl
theorem open22 {H : Type} {enc : TypeId × Value → H} {W : World} : Opens enc Try.prog W 22 (fun cs => ∃ (A0 : Option Addr) (c0 : Nat) (l0 : List Int), cs = [.slice A0 l0.length c0] ∧ l0.length ≤ c0 ∧ Kd.C (Kd.int .u8) W A0 l0.length l0 ∧ l0.length ≤ 9223372036854775807 ∧ (∀ y ∈ l0, (Lit.int .u8 y).wf = true)) :=
  Opens.slice (d := (Kd.int .u8)) (wf := fun y => (Lit.int .u8 y).wf = true) Try.underlying22 cells5 ((Opens.int Try.underlying5).imp fun cs ⟨n, h, w⟩ => ⟨n, h, w⟩)
/-- What is left to prove: numbers and lists alone, no memory. -/
def Stmt : Prop := ∀ (l0 : List Int) (a1 : Int) (a2 : Int), l0.length ≤ 9223372036854775807 → (∀ y ∈ l0, (Lit.int .u8 y).wf = true) → (Lit.int .i64 a1).wf = true → (Lit.int .i64 a2).wf = true → ∃ k, laws_FnExactCheckNew.f k l0 a1 a2 = some true
end Go.Proofs.Ytoglmpigdipknaa.AFnExactCheckNew
