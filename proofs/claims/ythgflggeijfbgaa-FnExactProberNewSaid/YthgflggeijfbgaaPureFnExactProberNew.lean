/- The program's ProberNew gives what the reference's ProberNew gives, for every argument; its result shares no memory with another. No condition. -/
import Derived.Test.YthgflggeijfbgaaPFnExactProberNewx2
namespace Go.Proofs.Ythgflggeijfbgaa.Pure
open Go.RowKit Go.Proofs.Ythgflggeijfbgaa.PFnExactProberNew Go.Proofs.YthgflggeijfbgaaW.PrintWords Go.Proofs.YthgflggeijfbgaaW.PrintLast

theorem FnExactProberNew : laws_FnExactProberNew.Pure := by
  intro a _
  refine ⟨3, ?_⟩
  unfold laws_FnExactProberNew.f spec_ProberNew.f impl_ProberNew.f impl_isSeed.f impl_within.f
  by_cases h0 : a < 0
  · have h : ¬ 0 ≤ a := by omega
    simp [h0, h, laws_eqProber.f, laws_eqIntS.f, laws_eqIntS.l0, laws_FnExactProberNew.j0, laws_FnExactProberNew.j1, laws_markProber.f, laws_markIntS.f, laws_markIntS.l0, laws_heldProber.f, laws_heldIntS.f, laws_heldIntS.l0, impl_ProberNew.f, impl_isSeed.f, impl_within.f]
  · by_cases h1 : a > 2147483647
    · have h : 0 ≤ a := by omega
      have h' : ¬ a ≤ 2147483647 := by omega
      simp [h0, h1, h, h', laws_eqProber.f, laws_eqIntS.f, laws_eqIntS.l0, laws_FnExactProberNew.j0, laws_FnExactProberNew.j1, laws_markProber.f, laws_markIntS.f, laws_markIntS.l0, laws_heldProber.f, laws_heldIntS.f, laws_heldIntS.l0, impl_ProberNew.f, impl_isSeed.f, impl_within.f]
    · have h : 0 ≤ a := by omega
      have h' : a ≤ 2147483647 := by omega
      simp [h0, h1, h, h', laws_eqProber.f, laws_eqIntS.f, laws_eqIntS.l0, laws_FnExactProberNew.j0, laws_FnExactProberNew.j1, laws_markProber.f, laws_markIntS.f, laws_markIntS.l0, laws_heldProber.f, laws_heldIntS.f, laws_heldIntS.l0, impl_ProberNew.f, impl_isSeed.f, impl_within.f]

end Go.Proofs.Ythgflggeijfbgaa.Pure
