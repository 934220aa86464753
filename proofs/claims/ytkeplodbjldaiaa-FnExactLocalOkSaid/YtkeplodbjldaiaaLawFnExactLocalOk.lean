/- The law FnExactLocalOk holds of every input: the row, out of the contract of its function and of what is proved of numbers and lists. No condition. -/
import Derived.Test.YtkeplodbjldaiaaRows
import Derived.Test.YtkeplodbjldaiaaArgsFnExactLocalOk
import Derived.Test.YtkeplodbjldaiaaPureFnExactLocalOk
import Derived.WalkKit
import Derived.ProofKit
import Derived.OpenShut
import Derived.ChangeOld
import Derived.Below
import Derived.SizedLaws
namespace Go.Proofs.Ytkeplodbjldaiaa.fnExactLocalOk
open Go.ChangeShapes Go.WideShapes Go.ChangeAt Go.RowKit Go.Proofs.Ytkeplodbjldaiaa.Open Go.Proofs.Ytkeplodbjldaiaa.AFnExactLocalOk
set_option linter.unusedVariables false
theorem own : ownKnob Try.prog.godebug = none := by kernel_rfl
theorem laidOut : laidOutB Try.prog = true := by kernel_rfl
set_option maxRecDepth 100000 in
set_option maxHeartbeats 1000000 in
theorem lifted (os : Os) (started : os.Started) (H : Type) (enc : TypeId × Value → H) :
    ReturnsInHanded {} Try.checked os 3 .any (Rows.fnExactLocalOkSpec.pre6 enc Try.prog Try.f3 Rows.fnExactLocalOkRow.domain false) (Rows.fnExactLocalOkSpec.post enc Try.prog Try.f3 false true false false) := by
  refine returnsInHanded_of_change_sized (C := Try.checked) own started (by kernel_rfl) Try.func3
    (ChangeSpec.witness6 (enc := enc) (C := Try.checked) false ⟨#[], #[.agg #[.slice none 0 0, .slice none 0 0]], []⟩ 8 (by kernel_rfl) (by kernel_rfl) (by kernel_rfl) (by kernel_rfl)) ?_
  intro W base args ds gs before hval0 hW hcnd hsz0 _
  have hval : ∀ (j : Nat) t v, Try.f3.params[j]? = some t → args[j]? = some v → Value.okWide Try.prog W .any base t v := hval0
  have hW' := hW
  obtain ⟨p, q, hA0, hV, rfl, hfz, hnd⟩ := hW
  have hA : DataW.TrodAll enc Try.prog W 0 (fun _ => true) true Try.f3.params.toList args.toList ds p := hA0
  rw [Try.params3] at hA hval
  obtain ⟨v0, vs0, d0, ds0, p0, q0, hargs, rfl, rfl, h0, r0⟩ := trodAll_cons hA
  obtain ⟨rfl, rfl, rfl⟩ := trodAll_nil r0
  obtain rfl : args = #[v0] := by cases args; simp_all
  obtain ⟨rfl, rfl⟩ := trodVars_none hV
  clear hA0 hval0 hsz0
  simp only [List.append_nil] at hW'
  have hlt0 : ∀ y ∈ p0, y.block < W.heap.size := fun y hy => hW'.lt y (by simp [hy])
  have harg0 : ∀ W' : World, Below W.heap.size W W' → DataW.Trod enc Try.prog W' 0 (fun b => decide (b < W.heap.size)) true 25 v0 d0 p0 := fun W' hn => Below.trod laidOut (by kernel_rfl) (of_decide_eq_true (by kernel_rfl)) h0 hn hlt0
  obtain ⟨cs0, rfl, hq0⟩ := Opens.agg Try.underlying25 (hval 0 25 v0 rfl rfl) h0 open25
  obtain ⟨A0_0, c0_0, l0_0, A0_1, c0_1, l0_1, e0, hc0_0, hr0_0, hn0_0, hw0_0, hc0_1, hr0_1, hn0_1, hw0_1⟩ := hq0
  obtain rfl := arr e0
  obtain ⟨k, hk⟩ := Pure.FnExactLocalOk l0_0 l0_1 hn0_0 hw0_0 hn0_1 hw0_1
  refine (XFnExactLocalOk.laws_FnExactLocalOk.calls k A0_0 c0_0 l0_0 A0_1 c0_1 l0_1 true W hr0_0 hc0_0 hr0_1 hc0_1 hk).mono fun e W' ⟨he, bel⟩ => ?_
  subst he
  exact ⟨_, rfl, _, _, _, [], _, [], hW', trodAll_mk1 (shut_bool Try.underlying4 _), (trodAll_cons_mk (harg0 W' bel) trodAll_mk0), rfl, bel.frame _, fun h => by cases h⟩
theorem over : Rows.fnExactLocalOkRow.holds Try.pinned (OpenSpec.ofChange Rows.fnExactLocalOkSpec) :=
  OpenClaim.holds_of_wide 3 Try.f3 rfl rfl rfl rfl rfl rfl rfl ⟨rfl, rfl, rfl, rfl, rfl⟩ rfl rfl rfl rfl rfl (by kernel_rfl) Try.func3 (by kernel_rfl)
    (of_decide_eq_true (by kernel_rfl)) (by unfold Func.isWrapper; first | (rw [if_pos (by decide +kernel)]; kernel_rfl) | (rw [if_neg (by decide +kernel)]; exact ⟨rfl, rfl⟩))
    (fun os started H enc _ => lifted os started H enc)
theorem proved : Rows.FnExactLocalOkSaid := over
#print axioms proved
end Go.Proofs.Ytkeplodbjldaiaa.fnExactLocalOk
namespace Go.Proofs.Ytkeplodbjldaiaa
/-- The row, under a short name, for the claim. -/
theorem fnExactLocalOk_holds : Rows.FnExactLocalOkSaid := fnExactLocalOk.proved
end Go.Proofs.Ytkeplodbjldaiaa
