/- The law FnExactHelpers holds of every input: the row, out of the contract of its function and of what is proved of numbers and lists. No condition. -/
import Derived.Test.YtigoajblljolcaaRows
import Derived.Test.YtigoajblljolcaaArgsFnExactHelpers
import Derived.Test.YtigoajblljolcaaPureFnExactHelpers
import Derived.WalkKit
import Derived.ProofKit
import Derived.OpenShut
import Derived.ChangeOld
import Derived.Below
import Derived.SizedLaws
namespace Go.Proofs.Ytigoajblljolcaa.fnExactHelpers
open Go.ChangeShapes Go.WideShapes Go.ChangeAt Go.RowKit Go.Proofs.Ytigoajblljolcaa.Open Go.Proofs.Ytigoajblljolcaa.AFnExactHelpers
set_option linter.unusedVariables false
theorem own : ownKnob Try.prog.godebug = none := by kernel_rfl
theorem laidOut : laidOutB Try.prog = true := by kernel_rfl
set_option maxRecDepth 100000 in
set_option maxHeartbeats 1000000 in
theorem lifted (os : Os) (started : os.Started) (H : Type) (enc : TypeId × Value → H) :
    ReturnsInHanded {} Try.checked os 12 .any (Rows.fnExactHelpersSpec.pre6 enc Try.prog Try.f12 Rows.fnExactHelpersRow.domain false) (Rows.fnExactHelpersSpec.post enc Try.prog Try.f12 false true false false) := by
  refine returnsInHanded_of_change_sized (C := Try.checked) own started (by kernel_rfl) Try.func12
    (ChangeSpec.witness6 (enc := enc) (C := Try.checked) false ⟨#[], #[.agg #[.slice none 0 0, .int .i64 0, .int .i64 0, .int .i64 0, .int .i64 0, .int .i64 0], .agg #[.int .i64 0, .slice none 0 0], .int .i64 0], []⟩ 8 (by kernel_rfl) (by kernel_rfl) (by kernel_rfl) (by kernel_rfl)) ?_
  intro W base args ds gs before hval0 hW hcnd hsz0 _
  have hval : ∀ (j : Nat) t v, Try.f12.params[j]? = some t → args[j]? = some v → Value.okWide Try.prog W .any base t v := hval0
  have hW' := hW
  obtain ⟨p, q, hA0, hV, rfl, hfz, hnd⟩ := hW
  have hA : DataW.TrodAll enc Try.prog W 0 (fun _ => true) true Try.f12.params.toList args.toList ds p := hA0
  rw [Try.params12] at hA hval
  obtain ⟨v0, vs0, d0, ds0, p0, q0, hargs, rfl, rfl, h0, r0⟩ := trodAll_cons hA
  obtain ⟨v1, vs1, d1, ds1, p1, q1, rfl, rfl, rfl, h1, r1⟩ := trodAll_cons r0
  obtain ⟨v2, vs2, d2, ds2, p2, q2, rfl, rfl, rfl, h2, r2⟩ := trodAll_cons r1
  obtain ⟨rfl, rfl, rfl⟩ := trodAll_nil r2
  obtain rfl : args = #[v0, v1, v2] := by cases args; simp_all
  obtain ⟨rfl, rfl⟩ := trodVars_none hV
  clear hA0 hval0 hsz0
  simp only [List.append_nil] at hW'
  have hlt0 : ∀ y ∈ p0, y.block < W.heap.size := fun y hy => hW'.lt y (by simp [hy])
  have harg0 : ∀ W' : World, Below W.heap.size W W' → DataW.Trod enc Try.prog W' 0 (fun b => decide (b < W.heap.size)) true 88 v0 d0 p0 := fun W' hn => Below.trod laidOut (by kernel_rfl) (of_decide_eq_true (by kernel_rfl)) h0 hn hlt0
  obtain ⟨cs0, rfl, hq0⟩ := Opens.agg Try.underlying88 (hval 0 88 v0 rfl rfl) h0 open88
  obtain ⟨A0_0, c0_0, l0_0, a0_1, a0_2, a0_3, a0_4, a0_5, e0, hc0_0, hr0_0, hn0_0, hw0_0, w0_1, w0_2, w0_3, w0_4, w0_5⟩ := hq0
  obtain rfl := arr e0
  have hlt1 : ∀ y ∈ p1, y.block < W.heap.size := fun y hy => hW'.lt y (by simp [hy])
  have harg1 : ∀ W' : World, Below W.heap.size W W' → DataW.Trod enc Try.prog W' 0 (fun b => decide (b < W.heap.size)) true 37 v1 d1 p1 := fun W' hn => Below.trod laidOut (by kernel_rfl) (of_decide_eq_true (by kernel_rfl)) h1 hn hlt1
  obtain ⟨cs1, rfl, hq1⟩ := Opens.agg Try.underlying37 (hval 1 37 v1 rfl rfl) h1 open37
  obtain ⟨a1_0, A1_1, c1_1, l1_1, e1, w1_0, hc1_1, hr1_1, hn1_1, hw1_1⟩ := hq1
  obtain rfl := arr e1
  have hlt2 : ∀ y ∈ p2, y.block < W.heap.size := fun y hy => hW'.lt y (by simp [hy])
  have harg2 : ∀ W' : World, Below W.heap.size W W' → DataW.Trod enc Try.prog W' 0 (fun b => decide (b < W.heap.size)) true 3 v2 d2 p2 := fun W' hn => Below.trod laidOut (by kernel_rfl) (of_decide_eq_true (by kernel_rfl)) h2 hn hlt2
  have hq2 := h2
  obtain ⟨a2, rfl, rfl, rfl, w2⟩ := open_int Try.underlying3 (hval 2 3 v2 rfl rfl) hq2
  obtain ⟨k, hk⟩ := Pure.FnExactHelpers l0_0 a0_1 a0_2 a0_3 a0_4 a0_5 a1_0 l1_1 a2 hn0_0 hw0_0 w0_1 w0_2 w0_3 w0_4 w0_5 w1_0 hn1_1 hw1_1 w2
  refine (XFnExactHelpers.laws_FnExactHelpers.calls k A0_0 c0_0 l0_0 a0_1 a0_2 a0_3 a0_4 a0_5 a1_0 A1_1 c1_1 l1_1 a2 true W hr0_0 hc0_0 hr1_1 hc1_1 hk).mono fun e W' ⟨he, bel⟩ => ?_
  subst he
  exact ⟨_, rfl, _, _, _, [], _, [], hW', trodAll_mk1 (shut_bool Try.underlying4 _), (trodAll_cons_mk (harg0 W' bel) (trodAll_cons_mk (harg1 W' bel) (trodAll_cons_mk (harg2 W' bel) trodAll_mk0))), rfl, bel.frame _, fun h => by cases h⟩
theorem over : Rows.fnExactHelpersRow.holds Try.pinned (OpenSpec.ofChange Rows.fnExactHelpersSpec) :=
  OpenClaim.holds_of_wide 12 Try.f12 rfl rfl rfl rfl rfl rfl rfl ⟨rfl, rfl, rfl, rfl, rfl⟩ rfl rfl rfl rfl rfl (by kernel_rfl) Try.func12 (by kernel_rfl)
    (of_decide_eq_true (by kernel_rfl)) (by unfold Func.isWrapper; first | (rw [if_pos (by decide +kernel)]; kernel_rfl) | (rw [if_neg (by decide +kernel)]; exact ⟨rfl, rfl⟩))
    (fun os started H enc _ => lifted os started H enc)
theorem proved : Rows.FnExactHelpersSaid := over
#print axioms proved
end Go.Proofs.Ytigoajblljolcaa.fnExactHelpers
namespace Go.Proofs.Ytigoajblljolcaa
/-- The row, under a short name, for the claim. -/
theorem fnExactHelpers_holds : Rows.FnExactHelpersSaid := fnExactHelpers.proved
end Go.Proofs.Ytigoajblljolcaa
