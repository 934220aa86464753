/- The program's Mix gives what the reference's Mix gives, for every argument. No condition. -/
import Derived.Test.YthgflggeijfbgaaPFnExactMixx1
namespace Go.Proofs.Ythgflggeijfbgaa.Pure
open Go.RowKit Go.Proofs.Ythgflggeijfbgaa.PFnExactMix Go.Proofs.YthgflggeijfbgaaW.PrintWords Go.Proofs.YthgflggeijfbgaaW.PrintLast

theorem FnExactMix : laws_FnExactMix.Pure := by
  intro a _
  unfold laws_FnExactMix.f spec_Mix.f impl_Mix.f impl_isSeed.f impl_within.f
  by_cases h0 : a < 0
  · have h : ¬ 0 ≤ a := by omega
    simp [h0, h]
  · by_cases h1 : a > 2147483647
    · have h : 0 ≤ a := by omega
      have h' : ¬ a ≤ 2147483647 := by omega
      simp [h0, h1, h, h']
    · have h : 0 ≤ a := by omega
      have h' : a ≤ 2147483647 := by omega
      simp [h0, h1, h, h', Int.mul_comm]

end Go.Proofs.Ythgflggeijfbgaa.Pure
