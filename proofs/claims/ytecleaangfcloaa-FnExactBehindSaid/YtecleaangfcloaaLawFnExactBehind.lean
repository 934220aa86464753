/- The law FnExactBehind holds of every input: the row, out of the texts of its functions and of what is proved of numbers and lists. No condition. -/
import Derived.Test.YtecleaangfcloaaRows
import Derived.Test.YtecleaangfcloaaVpBlFnExactBehind
import Derived.Test.YtecleaangfcloaaVmOpen
import Derived.WalkKit
import Derived.ProofKit
import Derived.OpenShut
import Derived.ChangeOld
import Derived.Below
import Derived.SizedLaws
namespace Go.Proofs.Ytecleaangfcloaa.fnExactBehind
open Go.ChangeShapes Go.WideShapes Go.ChangeAt Go.RowKit Go.Vm
set_option linter.unusedVariables false
set_option linter.unusedSimpArgs false
theorem own : ownKnob Try.prog.godebug = none := by kernel_rfl
theorem laidOut : laidOutB Try.prog = true := by kernel_rfl
theorem law_calls {P : Program} {Fn : Fns} {f : Nat} {s : Sig} {args : Array Value} {W : World} {ds : List Dy} (hcon : ConO P Fn f s) (hs : s.rt = [(.bool, .sh)]) (hn : s.nb = false) (ha : ArgsRep (oldB W) W s.pk ds args.toList)
    (h : Fn f ds = some [⟨.bool, true⟩]) : Calls P f args W fun e W' => e = .returned (.bool true) ∧ Below W.heap.size W W' := by
  refine (hcon W (oldB W) args ds _ (fun b hb => hb) ha h).mono fun e W' hp => ?_
  obtain ⟨v, sh', Fr, rfl, hE, _, _, hp3, _, _⟩ := hp
  unfold ResR at hp3
  rw [hn] at hp3
  obtain ⟨vs, hr, rfl⟩ := hp3
  rw [hs] at hr
  obtain ⟨d, es, u, us, F1, F2, hd, rfl, rfl, h1, ⟨ws, h2, h3⟩, h4⟩ := hr
  obtain ⟨rfl, rfl, rfl⟩ := h4
  simp only [List.cons.injEq, and_true] at hd
  subst hd
  refine ⟨?_, hE.below⟩
  rw [h2, h3.1]
  rfl
abbrev PT0 : Ty := (.pair (.int .i64) (.pair (.int .i64) (.pair (.int .i64) (.pair (.sl (.pair (.int .i64) (.pair (.int .i64) (.pair (.int .i64) (.pair (.int .i64) (.pair (.sl (.int .u8)) (.pair (.sl (.int .u8)) (.pair (.int .i64) .unit)))))))) (.pair (.int .i64) (.pair (.int .i64) (.pair (.int .i64) (.pair (.int .i64) (.pair (.sl .bool) (.pair (.sl (.int .i64)) (.pair (.sl (.int .i64)) .unit)))))))))))
theorem ty0 : tyD Try.prog 52 = some PT0 := by kernel_rfl
theorem lay0 : layAll Try.prog 12 52 = true := by kernel_rfl
set_option maxRecDepth 100000 in
set_option maxHeartbeats 1000000 in
theorem lifted (os : Os) (started : os.Started) (H : Type) (enc : TypeId × Value → H) :
    ReturnsInHanded {} Try.checked os 7 .any (Rows.fnExactBehindSpec.pre6 enc Try.prog Try.f7 Rows.fnExactBehindRow.domain false) (Rows.fnExactBehindSpec.post enc Try.prog Try.f7 false true false false) := by
  refine returnsInHanded_of_change_sized (C := Try.checked) own started (by kernel_rfl) Try.func7
    (ChangeSpec.witness6 (enc := enc) (C := Try.checked) false ⟨#[], #[.agg #[.int .i64 0, .int .i64 0, .int .i64 0, .slice none 0 0, .int .i64 0, .int .i64 0, .int .i64 0, .int .i64 0, .slice none 0 0, .slice none 0 0, .slice none 0 0], .int .i64 0], []⟩ 8 (by kernel_rfl) (by kernel_rfl) (by kernel_rfl) (by kernel_rfl)) ?_
  intro W base args ds gs before hval0 hW hcnd hsz0 _
  have hval : ∀ (j : Nat) t v, Try.f7.params[j]? = some t → args[j]? = some v → Value.okWide Try.prog W .any base t v := hval0
  have hW' := hW
  obtain ⟨p, q, hA0, hV, rfl, hfz, hnd⟩ := hW
  have hA : DataW.TrodAll enc Try.prog W 0 (fun _ => true) true Try.f7.params.toList args.toList ds p := hA0
  rw [Try.params7] at hA hval
  obtain ⟨v0, vs0, d0, ds0, p0, q0, hargs, rfl, rfl, h0, r0⟩ := trodAll_cons hA
  obtain ⟨v1, vs1, d1, ds1, p1, q1, rfl, rfl, rfl, h1, r1⟩ := trodAll_cons r0
  obtain ⟨rfl, rfl, rfl⟩ := trodAll_nil r1
  obtain rfl : args = #[v0, v1] := by cases args; simp_all
  obtain ⟨rfl, rfl⟩ := trodVars_none hV
  clear hA0 hval0 hsz0
  simp only [List.append_nil] at hW'
  have hlt0 : ∀ y ∈ p0, y.block < W.heap.size := fun y hy => hW'.lt y (by simp [hy])
  have harg0 : ∀ W' : World, Below W.heap.size W W' → DataW.Trod enc Try.prog W' 0 (fun b => decide (b < W.heap.size)) true 52 v0 d0 p0 := fun W' hn => Below.trod laidOut (by kernel_rfl) (of_decide_eq_true (by kernel_rfl)) h0 hn hlt0
  obtain ⟨cs0, rfl, x0, hx0, wx0⟩ := Opens.agg Try.underlying52 (hval 0 52 v0 rfl rfl) h0 (opens_rep 12 52 PT0 ty0 lay0)
  have hlt1 : ∀ y ∈ p1, y.block < W.heap.size := fun y hy => hW'.lt y (by simp [hy])
  have harg1 : ∀ W' : World, Below W.heap.size W W' → DataW.Trod enc Try.prog W' 0 (fun b => decide (b < W.heap.size)) true 3 v1 d1 p1 := fun W' hn => Below.trod laidOut (by kernel_rfl) (of_decide_eq_true (by kernel_rfl)) h1 hn hlt1
  have hq1 := h1
  obtain ⟨x1, rfl, rfl, rfl, w1⟩ := open_int Try.underlying3 (hval 1 3 v1 rfl rfl) hq1
  refine (law_calls ((VtFnExactBehind.con big (0 + 9) 7 VtFnExactBehind.sg7 rfl).old rfl) rfl rfl (ds := [⟨PT0, x0⟩, ⟨.int .i64, x1⟩]) ⟨[⟨PT0, x0⟩], _, _, _, rfl, rfl, ⟨_, rfl, cs0.toList, rfl, hx0⟩, [⟨.int .i64, x1⟩], _, _, _, rfl, rfl, ⟨_, rfl, _, rfl, rfl, rfl⟩, rfl, rfl⟩ (VtFnExactBehind.law 0 x0 x1 wx0)).mono fun e W' ⟨he, bel⟩ => ?_
  subst he
  exact ⟨_, rfl, _, _, _, [], _, [], hW', trodAll_mk1 (shut_bool Try.underlying4 _), (trodAll_cons_mk (harg0 W' bel) (trodAll_cons_mk (harg1 W' bel) trodAll_mk0)), rfl, bel.frame _, fun h => by cases h⟩
theorem over : Rows.fnExactBehindRow.holds Try.pinned (OpenSpec.ofChange Rows.fnExactBehindSpec) :=
  OpenClaim.holds_of_wide 7 Try.f7 rfl rfl rfl rfl rfl rfl rfl ⟨rfl, rfl, rfl, rfl, rfl⟩ rfl rfl rfl rfl rfl (by kernel_rfl) Try.func7 (by kernel_rfl)
    (of_decide_eq_true (by kernel_rfl)) (by unfold Func.isWrapper; first | (rw [if_pos (by decide +kernel)]; kernel_rfl) | (rw [if_neg (by decide +kernel)]; exact ⟨rfl, rfl⟩))
    (fun os started H enc _ => lifted os started H enc)
theorem proved : Rows.FnExactBehindSaid := over
end Go.Proofs.Ytecleaangfcloaa.fnExactBehind
namespace Go.Proofs.Ytecleaangfcloaa
/-- The row, under a short name, for the claim. -/
theorem fnExactBehind_holds : Rows.FnExactBehindSaid := fnExactBehind.proved
end Go.Proofs.Ytecleaangfcloaa
