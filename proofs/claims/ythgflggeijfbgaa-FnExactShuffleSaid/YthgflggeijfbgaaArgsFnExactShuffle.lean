/- What the arguments of the law FnExactShuffle are, whatever they are: opened. And what is to be proved of numbers and lists. -/
import Derived.Test.YthgflggeijfbgaaOpen
import Derived.Test.YthgflggeijfbgaaXFnExactShufflex
import Derived.KernelRfl
namespace Go.Proofs.Ythgflggeijfbgaa.AFnExactShuffle
open Go.RowKit Go.Proofs.Ythgflggeijfbgaa.Open Go.Proofs.YthgflggeijfbgaaW.PrintWords Go.Proofs.YthgflggeijfbgaaW.PrintLast Go.Proofs.Ythgflggeijfbgaa.XFnExactShuffle
set_option linter.unusedVariables false
set_option linter.unusedSimpArgs false
theorem cells3 : Try.prog.cellsOf 3 = 1 := by kernel_rfl
theorem open45 {H : Type} {enc : TypeId × Value → H} {W : World} : Opens enc Try.prog W 45 (fun cs => ∃ (A0 : Option Addr) (c0 : Nat) (l0 : List Int), cs = [.slice A0 l0.length c0] ∧ l0.length ≤ c0 ∧ Kd.C (Kd.int .i64) W A0 l0.length l0 ∧ l0.length ≤ 9223372036854775807 ∧ (∀ y ∈ l0, (Lit.int .i64 y).wf = true)) :=
  Opens.slice (d := (Kd.int .i64)) (wf := fun y => (Lit.int .i64 y).wf = true) Try.underlying45 cells3 ((Opens.int Try.underlying3).imp fun cs ⟨n, h, w⟩ => ⟨n, h, w⟩)
/-- What is left to prove: numbers and lists alone, no memory. -/
def Stmt : Prop := ∀ (l0 : List Int) (a1 : Int), l0.length ≤ 9223372036854775807 → (∀ y ∈ l0, (Lit.int .i64 y).wf = true) → (Lit.int .i64 a1).wf = true → ∃ k, laws_FnExactShuffle.f k l0 a1 = some true
end Go.Proofs.Ythgflggeijfbgaa.AFnExactShuffle
