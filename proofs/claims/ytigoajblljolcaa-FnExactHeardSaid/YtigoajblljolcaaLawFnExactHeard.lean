/- The law FnExactHeard holds of every input: the row, out of the contract of its function and of what is proved of numbers and lists. No condition. -/
import Derived.Test.YtigoajblljolcaaRows
import Derived.Test.YtigoajblljolcaaArgsFnExactHeard
import Derived.Test.YtigoajblljolcaaPureFnExactHeard
import Derived.WalkKit
import Derived.ProofKit
import Derived.OpenShut
import Derived.ChangeOld
import Derived.Below
import Derived.SizedLaws
namespace Go.Proofs.Ytigoajblljolcaa.fnExactHeard
open Go.ChangeShapes Go.WideShapes Go.ChangeAt Go.RowKit Go.Proofs.Ytigoajblljolcaa.Open Go.Proofs.Ytigoajblljolcaa.AFnExactHeard
set_option linter.unusedVariables false
theorem own : ownKnob Try.prog.godebug = none := by kernel_rfl
theorem laidOut : laidOutB Try.prog = true := by kernel_rfl
set_option maxRecDepth 100000 in
set_option maxHeartbeats 1000000 in
theorem lifted (os : Os) (started : os.Started) (H : Type) (enc : TypeId × Value → H) :
    ReturnsInHanded {} Try.checked os 10 .any (Rows.fnExactHeardSpec.pre6 enc Try.prog Try.f10 Rows.fnExactHeardRow.domain false) (Rows.fnExactHeardSpec.post enc Try.prog Try.f10 false true false false) := by
  refine returnsInHanded_of_change_sized (C := Try.checked) own started (by kernel_rfl) Try.func10
    (ChangeSpec.witness6 (enc := enc) (C := Try.checked) false ⟨#[], #[.agg #[.int .i64 0, .slice none 0 0], .agg #[.int .i64 0, .int .i64 0, .int .i64 0]], []⟩ 8 (by kernel_rfl) (by kernel_rfl) (by kernel_rfl) (by kernel_rfl)) ?_
  intro W base args ds gs before hval0 hW hcnd hsz0 _
  have hval : ∀ (j : Nat) t v, Try.f10.params[j]? = some t → args[j]? = some v → Value.okWide Try.prog W .any base t v := hval0
  have hW' := hW
  obtain ⟨p, q, hA0, hV, rfl, hfz, hnd⟩ := hW
  have hA : DataW.TrodAll enc Try.prog W 0 (fun _ => true) true Try.f10.params.toList args.toList ds p := hA0
  rw [Try.params10] at hA hval
  obtain ⟨v0, vs0, d0, ds0, p0, q0, hargs, rfl, rfl, h0, r0⟩ := trodAll_cons hA
  obtain ⟨v1, vs1, d1, ds1, p1, q1, rfl, rfl, rfl, h1, r1⟩ := trodAll_cons r0
  obtain ⟨rfl, rfl, rfl⟩ := trodAll_nil r1
  obtain rfl : args = #[v0, v1] := by cases args; simp_all
  obtain ⟨rfl, rfl⟩ := trodVars_none hV
  clear hA0 hval0 hsz0
  simp only [List.append_nil] at hW'
  have hlt0 : ∀ y ∈ p0, y.block < W.heap.size := fun y hy => hW'.lt y (by simp [hy])
  have harg0 : ∀ W' : World, Below W.heap.size W W' → DataW.Trod enc Try.prog W' 0 (fun b => decide (b < W.heap.size)) true 37 v0 d0 p0 := fun W' hn => Below.trod laidOut (by kernel_rfl) (of_decide_eq_true (by kernel_rfl)) h0 hn hlt0
  obtain ⟨cs0, rfl, hq0⟩ := Opens.agg Try.underlying37 (hval 0 37 v0 rfl rfl) h0 open37
  obtain ⟨a0_0, A0_1, c0_1, l0_1, e0, w0_0, hc0_1, hr0_1, hn0_1, hw0_1⟩ := hq0
  obtain rfl := arr e0
  have hlt1 : ∀ y ∈ p1, y.block < W.heap.size := fun y hy => hW'.lt y (by simp [hy])
  have harg1 : ∀ W' : World, Below W.heap.size W W' → DataW.Trod enc Try.prog W' 0 (fun b => decide (b < W.heap.size)) true 80 v1 d1 p1 := fun W' hn => Below.trod laidOut (by kernel_rfl) (of_decide_eq_true (by kernel_rfl)) h1 hn hlt1
  obtain ⟨cs1, rfl, hq1⟩ := Opens.agg Try.underlying80 (hval 1 80 v1 rfl rfl) h1 open80
  obtain ⟨a1_0, a1_1, a1_2, e1, w1_0, w1_1, w1_2⟩ := hq1
  obtain rfl := arr e1
  obtain ⟨k, hk⟩ := Pure.FnExactHeard a0_0 l0_1 a1_0 a1_1 a1_2 w0_0 hn0_1 hw0_1 w1_0 w1_1 w1_2
  refine (XFnExactHeard.laws_FnExactHeard.calls k a0_0 A0_1 c0_1 l0_1 a1_0 a1_1 a1_2 true W hr0_1 hc0_1 hk).mono fun e W' ⟨he, bel⟩ => ?_
  subst he
  exact ⟨_, rfl, _, _, _, [], _, [], hW', trodAll_mk1 (shut_bool Try.underlying4 _), (trodAll_cons_mk (harg0 W' bel) (trodAll_cons_mk (harg1 W' bel) trodAll_mk0)), rfl, bel.frame _, fun h => by cases h⟩
theorem over : Rows.fnExactHeardRow.holds Try.pinned (OpenSpec.ofChange Rows.fnExactHeardSpec) :=
  OpenClaim.holds_of_wide 10 Try.f10 rfl rfl rfl rfl rfl rfl rfl ⟨rfl, rfl, rfl, rfl, rfl⟩ rfl rfl rfl rfl rfl (by kernel_rfl) Try.func10 (by kernel_rfl)
    (of_decide_eq_true (by kernel_rfl)) (by unfold Func.isWrapper; first | (rw [if_pos (by decide +kernel)]; kernel_rfl) | (rw [if_neg (by decide +kernel)]; exact ⟨rfl, rfl⟩))
    (fun os started H enc _ => lifted os started H enc)
theorem proved : Rows.FnExactHeardSaid := over
#print axioms proved
end Go.Proofs.Ytigoajblljolcaa.fnExactHeard
namespace Go.Proofs.Ytigoajblljolcaa
/-- The row, under a short name, for the claim. -/
theorem fnExactHeard_holds : Rows.FnExactHeardSaid := fnExactHeard.proved
end Go.Proofs.Ytigoajblljolcaa
