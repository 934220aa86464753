/- The program's MoveOk gives what the reference's MoveOk gives, for every argument. No condition. -/
import Derived.Test.YthgflggeijfbgaaArgsFnExactMoveOk
namespace Go.Proofs.Ythgflggeijfbgaa.Pure
open Go.RowKit Go.Proofs.Ythgflggeijfbgaa.AFnExactMoveOk Go.Proofs.Ythgflggeijfbgaa.PFnExactMoveOk Go.Proofs.YthgflggeijfbgaaW.PrintWords Go.Proofs.YthgflggeijfbgaaW.PrintLast
theorem FnExactMoveOk : AFnExactMoveOk.Stmt := by
  intro a b c _ _ _
  unfold laws_FnExactMoveOk.f laws_toMove.f spec_MoveOk.f impl_MoveOk.f impl_within.f
  have e1 : b < 12 ↔ b ≤ 11 := by omega
  by_cases h1 : a ≥ 0 <;> by_cases h2 : a ≤ 6 <;> by_cases h3 : b ≥ 0 <;> by_cases h4 : b ≤ 11 <;> by_cases h5 : c ≥ 0 <;> simp [h1, h2, h3, h4, h5, e1]

end Go.Proofs.Ythgflggeijfbgaa.Pure
