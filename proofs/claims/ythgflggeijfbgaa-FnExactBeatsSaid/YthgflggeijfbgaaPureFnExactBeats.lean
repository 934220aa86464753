/- The program's Beats gives what the reference's Beats gives, for every argument. No condition. -/
import Derived.Test.YthgflggeijfbgaaArgsFnExactBeats
namespace Go.Proofs.Ythgflggeijfbgaa.Pure
open Go.RowKit Go.Proofs.Ythgflggeijfbgaa.AFnExactBeats Go.Proofs.Ythgflggeijfbgaa.PFnExactBeats Go.Proofs.YthgflggeijfbgaaW.PrintWords Go.Proofs.YthgflggeijfbgaaW.PrintLast
theorem FnExactBeats : AFnExactBeats.Stmt := by
  intro a b c d e f _ _ _ _ _ _
  have h : impl_Beats.f a b c d e f = spec_Beats.f a b c d e f := by unfold impl_Beats.f spec_Beats.f; rfl
  have h2 : ∃ r, spec_Beats.f a b c d e f = some r := by
    unfold spec_Beats.f
    split
    · split
      · exact ⟨_, rfl⟩
      · split <;> exact ⟨_, rfl⟩
    · exact ⟨_, rfl⟩
  obtain ⟨r, hr⟩ := h2
  simp [laws_FnExactBeats.f, laws_toMember.f, h, hr]

end Go.Proofs.Ythgflggeijfbgaa.Pure
