/- The program's TableNew gives what the reference's TableNew gives, for every argument; its result shares no memory with another. No condition. -/
import Derived.Test.YthgflggeijfbgaaPFnExactTableNewx2
namespace Go.Proofs.Ythgflggeijfbgaa.Pure
open Go.RowKit Go.Proofs.Ythgflggeijfbgaa.PFnExactTableNew Go.Proofs.YthgflggeijfbgaaW.PrintWords Go.Proofs.YthgflggeijfbgaaW.PrintLast

theorem FnExactTableNew : laws_FnExactTableNew.Pure := by
  intro a _
  refine ⟨4, ?_⟩
  have w1 : wrap64 1 = 1 := by unfold wrap64; omega
  have w2 : wrap64 2 = 2 := by unfold wrap64; omega
  have w3 : wrap64 3 = 3 := by unfold wrap64; omega
  have w4 : wrap64 4 = 4 := by unfold wrap64; omega
  
  unfold laws_FnExactTableNew.f spec_TableNew.f impl_TableNew.f impl_within.f
  by_cases h0 : a < 0
  · have h : ¬ 0 ≤ a := by omega
    simp [h0, h, laws_eqTable.f, laws_eqMemberS.f, laws_eqMemberS.l0, laws_eqMember.f, laws_FnExactTableNew.j0, laws_FnExactTableNew.j1, laws_markTable.f, laws_markMemberS.f, laws_markMemberS.l0, laws_heldTable.f, laws_heldMemberS.f, laws_heldMemberS.l0, impl_TableNew.f, impl_within.f]
  · by_cases h1 : a ≥ 12
    · have h : 0 ≤ a := by omega
      have h' : ¬ a ≤ 11 := by omega
      simp [h0, h1, h, h', laws_eqTable.f, laws_eqMemberS.f, laws_eqMemberS.l0, laws_eqMember.f, laws_FnExactTableNew.j0, laws_FnExactTableNew.j1, laws_markTable.f, laws_markMemberS.f, laws_markMemberS.l0, laws_heldTable.f, laws_heldMemberS.f, laws_heldMemberS.l0, impl_TableNew.f, impl_within.f]
    · have h : 0 ≤ a := by omega
      have h' : a ≤ 11 := by omega
      simp [h0, h1, h, h', laws_eqTable.f, laws_eqMemberS.f, laws_eqMemberS.l0, laws_eqMember.f, laws_FnExactTableNew.j0, laws_FnExactTableNew.j1, laws_markTable.f, laws_markMemberS.f, laws_markMemberS.l0, laws_heldTable.f, laws_heldMemberS.f, laws_heldMemberS.l0, impl_TableNew.f, impl_within.f, rd_T25, w1, w2, w3, w4]

end Go.Proofs.Ythgflggeijfbgaa.Pure
