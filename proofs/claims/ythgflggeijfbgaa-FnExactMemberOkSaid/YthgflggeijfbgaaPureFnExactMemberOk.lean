/- The program's MemberOk gives what the reference's MemberOk gives, for every argument. No condition. -/
import Derived.Test.YthgflggeijfbgaaArgsFnExactMemberOk
namespace Go.Proofs.Ythgflggeijfbgaa.Pure
open Go.RowKit Go.Proofs.Ythgflggeijfbgaa.AFnExactMemberOk Go.Proofs.Ythgflggeijfbgaa.PFnExactMemberOk Go.Proofs.YthgflggeijfbgaaW.PrintWords Go.Proofs.YthgflggeijfbgaaW.PrintLast
theorem FnExactMemberOk : AFnExactMemberOk.Stmt := by
  intro a b c _ _ _
  unfold laws_FnExactMemberOk.f laws_toMember.f spec_MemberOk.f impl_MemberOk.f impl_within.f
  have e1 : a < 12 ↔ a ≤ 11 := by omega
  by_cases h1 : a ≥ 0 <;> by_cases h2 : a ≤ 11 <;> by_cases h3 : b ≥ 0 <;> by_cases h4 : b ≤ 3 <;> by_cases h5 : c ≥ 0 <;> simp [h1, h2, h3, h4, h5, e1]

end Go.Proofs.Ythgflggeijfbgaa.Pure
