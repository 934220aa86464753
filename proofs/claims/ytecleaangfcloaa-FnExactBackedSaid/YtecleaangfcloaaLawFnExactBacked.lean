/- The law FnExactBacked holds of every input: the row, out of the texts of its functions and of what is proved of numbers and lists. No condition. -/
import Derived.Test.YtecleaangfcloaaRows
import Derived.Test.YtecleaangfcloaaVpBacked
import Derived.Test.YtecleaangfcloaaVmOpen
import Derived.WalkKit
import Derived.ProofKit
import Derived.OpenShut
import Derived.ChangeOld
import Derived.Below
import Derived.SizedLaws
namespace Go.Proofs.Ytecleaangfcloaa.fnExactBacked
open Go.ChangeShapes Go.WideShapes Go.ChangeAt Go.RowKit Go.Vm Go.Proofs.Ytecleaangfcloaa.Vp
set_option linter.unusedVariables false
set_option linter.unusedSimpArgs false
theorem own : ownKnob Try.prog.godebug = none := by kernel_rfl
theorem laidOut : laidOutB Try.prog = true := by kernel_rfl
theorem law_calls {P : Program} {T : Nat → Option (Sig × IR)} {N k f : Nat} {s : Sig} {args : Array Value} {W : World} {ds : List Dy} (hcon : Con P (level T N k) f s) (hs : s.rt = [(.bool, .sh)]) (ha : ArgsRep (oldB W) W ds args.toList)
    (h : level T N k f ds = some [⟨.bool, true⟩]) : Calls P f args W fun e W' => e = .returned (.bool true) ∧ Below W.heap.size W W' := by
  refine (hcon W (oldB W) args ds _ (fun b hb => hb) ha h).mono fun e W' hp => ?_
  obtain ⟨v, sh', Fr, rfl, hE, _, _, ⟨vs, hr, rfl⟩, _, _⟩ := hp
  rw [hs] at hr
  obtain ⟨d, es, u, us, F1, F2, hd, rfl, rfl, h1, ⟨ws, h2, h3⟩, h4⟩ := hr
  obtain ⟨rfl, rfl, rfl⟩ := h4
  simp only [List.cons.injEq, and_true] at hd
  subst hd
  refine ⟨?_, hE.below⟩
  rw [h2, h3.1]
  rfl
theorem ty0 : tyD Try.prog 52 = some NTy := by kernel_rfl
theorem lay0 : layAll Try.prog 12 52 = true := by kernel_rfl
set_option maxRecDepth 100000 in
set_option maxHeartbeats 1000000 in
theorem lifted (os : Os) (started : os.Started) (H : Type) (enc : TypeId × Value → H) :
    ReturnsInHanded {} Try.checked os 6 .any (Rows.fnExactBackedSpec.pre6 enc Try.prog Try.f6 Rows.fnExactBackedRow.domain false) (Rows.fnExactBackedSpec.post enc Try.prog Try.f6 false true false false) := by
  refine returnsInHanded_of_change_sized (C := Try.checked) own started (by kernel_rfl) Try.func6
    (ChangeSpec.witness6 (enc := enc) (C := Try.checked) false ⟨#[], #[.agg #[.int .i64 0, .int .i64 0, .int .i64 0, .slice none 0 0, .int .i64 0, .int .i64 0, .int .i64 0, .int .i64 0, .slice none 0 0, .slice none 0 0, .slice none 0 0], .int .i64 0, .int .i64 0], []⟩ 8 (by kernel_rfl) (by kernel_rfl) (by kernel_rfl) (by kernel_rfl)) ?_
  intro W base args ds gs before hval0 hW hcnd hsz0 _
  have hval : ∀ (j : Nat) t v, Try.f6.params[j]? = some t → args[j]? = some v → Value.okWide Try.prog W .any base t v := hval0
  have hW' := hW
  obtain ⟨p, q, hA0, hV, rfl, hfz, hnd⟩ := hW
  have hA : DataW.TrodAll enc Try.prog W 0 (fun _ => true) true Try.f6.params.toList args.toList ds p := hA0
  rw [Try.params6] at hA hval
  obtain ⟨v0, vs0, d0, ds0, p0, q0, hargs, rfl, rfl, h0, r0⟩ := trodAll_cons hA
  obtain ⟨v1, vs1, d1, ds1, p1, q1, rfl, rfl, rfl, h1, r1⟩ := trodAll_cons r0
  obtain ⟨v2, vs2, d2, ds2, p2, q2, rfl, rfl, rfl, h2, r2⟩ := trodAll_cons r1
  obtain ⟨rfl, rfl, rfl⟩ := trodAll_nil r2
  obtain rfl : args = #[v0, v1, v2] := by cases args; simp_all
  obtain ⟨rfl, rfl⟩ := trodVars_none hV
  clear hA0 hval0 hsz0
  simp only [List.append_nil] at hW'
  have hlt0 : ∀ y ∈ p0, y.block < W.heap.size := fun y hy => hW'.lt y (by simp [hy])
  have harg0 : ∀ W' : World, Below W.heap.size W W' → DataW.Trod enc Try.prog W' 0 (fun b => decide (b < W.heap.size)) true 52 v0 d0 p0 := fun W' hn => Below.trod laidOut (by kernel_rfl) (of_decide_eq_true (by kernel_rfl)) h0 hn hlt0
  obtain ⟨cs0, rfl, x, hx, wx⟩ := Opens.agg Try.underlying52 (hval 0 52 v0 rfl rfl) h0 (opens_rep 12 52 NTy ty0 lay0)
  have hlt1 : ∀ y ∈ p1, y.block < W.heap.size := fun y hy => hW'.lt y (by simp [hy])
  have harg1 : ∀ W' : World, Below W.heap.size W W' → DataW.Trod enc Try.prog W' 0 (fun b => decide (b < W.heap.size)) true 3 v1 d1 p1 := fun W' hn => Below.trod laidOut (by kernel_rfl) (of_decide_eq_true (by kernel_rfl)) h1 hn hlt1
  have hq1 := h1
  obtain ⟨a1, rfl, rfl, rfl, w1⟩ := open_int Try.underlying3 (hval 1 3 v1 rfl rfl) hq1
  have hlt2 : ∀ y ∈ p2, y.block < W.heap.size := fun y hy => hW'.lt y (by simp [hy])
  have harg2 : ∀ W' : World, Below W.heap.size W W' → DataW.Trod enc Try.prog W' 0 (fun b => decide (b < W.heap.size)) true 3 v2 d2 p2 := fun W' hn => Below.trod laidOut (by kernel_rfl) (of_decide_eq_true (by kernel_rfl)) h2 hn hlt2
  have hq2 := h2
  obtain ⟨a2, rfl, rfl, rfl, w2⟩ := open_int Try.underlying3 (hval 2 3 v2 rfl rfl) hq2
  refine (law_calls (VtFnExactBacked.con big 9 6 VtFnExactBacked.sg6 rfl) rfl (ds := [⟨NTy, x⟩, I a1, I a2]) ⟨_, _, rfl, ⟨cs0.toList, rfl, hx⟩, _, _, rfl, ⟨_, rfl, rfl, rfl⟩, _, _, rfl, ⟨_, rfl, rfl, rfl⟩, rfl⟩ (law6 big 0 x a1 a2 (Nat.le_refl _) wx)).mono fun e W' ⟨he, bel⟩ => ?_
  subst he
  exact ⟨_, rfl, _, _, _, [], _, [], hW', trodAll_mk1 (shut_bool Try.underlying4 _), (trodAll_cons_mk (harg0 W' bel) (trodAll_cons_mk (harg1 W' bel) (trodAll_cons_mk (harg2 W' bel) trodAll_mk0))), rfl, bel.frame _, fun h => by cases h⟩
theorem over : Rows.fnExactBackedRow.holds Try.pinned (OpenSpec.ofChange Rows.fnExactBackedSpec) :=
  OpenClaim.holds_of_wide 6 Try.f6 rfl rfl rfl rfl rfl rfl rfl ⟨rfl, rfl, rfl, rfl, rfl⟩ rfl rfl rfl rfl rfl (by kernel_rfl) Try.func6 (by kernel_rfl)
    (of_decide_eq_true (by kernel_rfl)) (by unfold Func.isWrapper; first | (rw [if_pos (by decide +kernel)]; kernel_rfl) | (rw [if_neg (by decide +kernel)]; exact ⟨rfl, rfl⟩))
    (fun os started H enc _ => lifted os started H enc)
theorem proved : Rows.FnExactBackedSaid := over
#print axioms proved
end Go.Proofs.Ytecleaangfcloaa.fnExactBacked
namespace Go.Proofs.Ytecleaangfcloaa
/-- The row, under a short name, for the claim. -/
theorem fnExactBacked_holds : Rows.FnExactBackedSaid := fnExactBacked.proved
end Go.Proofs.Ytecleaangfcloaa
