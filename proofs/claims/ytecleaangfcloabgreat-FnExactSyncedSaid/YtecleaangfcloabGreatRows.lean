/-
  No cell of these rows narrows 'for every input' (looked for: loops, veiled, ifaces, maps, wideKeys, modest, calm, conditions, laid).
  DERIVED. THE GIVEN ROWS OF THIS SEAT. 3 by the template 'for every input the law returns true; each argument reads behind the call as it read before'; 0 by the template 'total and deterministic' (their statements: YtecleaangfcloabGreatTotals.lean).
  GIVEN WITH THE SEED: the statements are not yours to turn. If you find one false, say at which input.
  Laid BY PROGRAM, IN A SANDBOX (cutbox-rows.mjs): the forced cells as the released guide's own fill.sh prints them over the translation de663e14ecbbaebc… (all of the seat's roots in one cut). By AI agents, Wed Nov 11 2026. No macro, syntax, notation, axiom, sorry.
-/
import Derived.Test.YtecleaangfcloabGreatChecked
import GoSem.Claim
import GoSem.ClaimJoined
import GoSem.ClaimMapViews
import Derived.JoinedTies
import Derived.KernelRfl
namespace Go.Proofs.YtecleaangfcloabGreat
/- THE CELL 'sum', in the pinned program and in every row, IS THE sha256 OF THE DUMP (.gsa) THAT YtecleaangfcloabGreatProg.lean LOADS. Nothing in Lean hashes anything: it is a label: what it is worth is what the hold of that sum in a sandbox is worth. -/
noncomputable def Tryz.pinned : Pinned := { name := "ytecleaangfcloabgreat", sum := "de663e14ecbbaebcaeaadbf514e762ce1c278f0ef2f701c45f0a995e482903bf", checked := Tryz.checked }
namespace Rows
def none {H : Type} : Left H := { results := [], args := [] }

/-- 'laws.FnExactSynced': WHATEVER THE INPUT: true; the input reads as it did. -/
def fnExactSyncedSpec : ChangeSpec := { name := "fnExactSynced", fn := fun _ => fun
  | [d1, d2] => { results := [.lit (.bool true)], args := [d1, d2] }
  | _ => none }
def fnExactSyncedRow : OpenClaim := { program := "ytecleaangfcloabgreat", sum := "de663e14ecbbaebcaeaadbf514e762ce1c278f0ef2f701c45f0a995e482903bf", func := "loop.example/g00365/laws.FnExactSynced", spec := "fnExactSynced", inPlace := ["internal/bytealg.Compare"], unfollowed := true, recurses := true, apart := false }
def FnExactSyncedSaid : Prop := fnExactSyncedRow.holds Tryz.pinned (OpenSpec.ofChange fnExactSyncedSpec)

/-- ITS FALSE NEIGHBOUR: 'it returns false'. Refute it at one input. -/
def fnExactSyncedWrong : ChangeSpec := { name := "fnExactSynced", fn := fun _ => fun
  | [d1, d2] => { results := [.lit (.bool false)], args := [d1, d2] }
  | _ => none }
def FnExactSyncedWrongFalsely : Prop := fnExactSyncedRow.holds Tryz.pinned (OpenSpec.ofChange fnExactSyncedWrong)

/-- 'laws.FnExactPlan': WHATEVER THE INPUT: true; the input reads as it did. -/
def fnExactPlanSpec : ChangeSpec := { name := "fnExactPlan", fn := fun _ => fun
  | [d1, d2] => { results := [.lit (.bool true)], args := [d1, d2] }
  | _ => none }
def fnExactPlanRow : OpenClaim := { program := "ytecleaangfcloabgreat", sum := "de663e14ecbbaebcaeaadbf514e762ce1c278f0ef2f701c45f0a995e482903bf", func := "loop.example/g00365/laws.FnExactPlan", spec := "fnExactPlan", inPlace := ["internal/bytealg.Compare"], unfollowed := true, recurses := true, apart := false }
def FnExactPlanSaid : Prop := fnExactPlanRow.holds Tryz.pinned (OpenSpec.ofChange fnExactPlanSpec)

/-- ITS FALSE NEIGHBOUR: 'it returns false'. Refute it at one input. -/
def fnExactPlanWrong : ChangeSpec := { name := "fnExactPlan", fn := fun _ => fun
  | [d1, d2] => { results := [.lit (.bool false)], args := [d1, d2] }
  | _ => none }
def FnExactPlanWrongFalsely : Prop := fnExactPlanRow.holds Tryz.pinned (OpenSpec.ofChange fnExactPlanWrong)

/-- 'laws.FnExactFollow': WHATEVER THE INPUT: true; the input reads as it did. -/
def fnExactFollowSpec : ChangeSpec := { name := "fnExactFollow", fn := fun _ => fun
  | [d] => { results := [.lit (.bool true)], args := [d] }
  | _ => none }
def fnExactFollowRow : OpenClaim := { program := "ytecleaangfcloabgreat", sum := "de663e14ecbbaebcaeaadbf514e762ce1c278f0ef2f701c45f0a995e482903bf", func := "loop.example/g00365/laws.FnExactFollow", spec := "fnExactFollow", inPlace := ["internal/bytealg.Compare", "slices.overlaps[loop.example/g00365/impl.Row]", "slices.overlaps[loop.example/g00365/impl.Last]"], unfollowed := true, recurses := true, apart := false }
def FnExactFollowSaid : Prop := fnExactFollowRow.holds Tryz.pinned (OpenSpec.ofChange fnExactFollowSpec)

/-- ITS FALSE NEIGHBOUR: 'it returns false'. Refute it at one input. -/
def fnExactFollowWrong : ChangeSpec := { name := "fnExactFollow", fn := fun _ => fun
  | [d] => { results := [.lit (.bool false)], args := [d] }
  | _ => none }
def FnExactFollowWrongFalsely : Prop := fnExactFollowRow.holds Tryz.pinned (OpenSpec.ofChange fnExactFollowWrong)

/- THE SECOND FORM. 'bulk': how many values and letters a reading holds, each counted each time it is reached (what is shared counts as often as it is met; a slice's spare places count too). A statement '..UptoSaid' is the law's where the arguments, and the package variables that the reading takes, are together of bulk at most 1048576: NARROWER than '..Said'. Prove '..Said' where nothing that the law and all that it calls make is longer than what came in: it says more and counts as full. Else prove '..UptoSaid'. A law counts once. -/
mutual
def uptoBulk {H : Type} : DataW H → Nat
  | .lit (.string bytes) => bytes.length + 1
  | .lit _ => 1
  | .nil => 1
  | .ptr d => uptoBulk d + 1
  | .slice elems spare => uptoBulkAll elems + uptoBulkAll spare + 1
  | .agg parts => uptoBulkAll parts + 1
  | .iface _ d => uptoBulk d + 1
  | .map entries => uptoBulkEntries entries + 1
  | .held _ => 1
def uptoBulkAll {H : Type} : List (DataW H) → Nat
  | [] => 0
  | d :: r => uptoBulk d + uptoBulkAll r
def uptoBulkEntries {H : Type} : List (Lit × DataW H) → Nat
  | [] => 0
  | x :: r => uptoBulkEntry x + uptoBulkEntries r
def uptoBulkEntry {H : Type} : Lit × DataW H → Nat
  | (.string bytes, d) => bytes.length + uptoBulk d + 1
  | (_, d) => uptoBulk d + 1
 end
def uptoSmall : (H : Type) → List (DataW H) → Bool := fun _ ds => decide (uptoBulkAll ds ≤ 1048576)
def OpenSpec.upto (s : _root_.Go.ChangeSpec) : _root_.Go.OpenSpec := { _root_.Go.OpenSpec.ofChange s with cond := some uptoSmall }

/-- 'laws.FnExactSynced', WHERE WHAT IT READS IS OF BULK AT MOST 1048576: true; the input reads as it did. -/
def fnExactSyncedUptoRow : OpenClaim := { program := "ytecleaangfcloabgreat", sum := "de663e14ecbbaebcaeaadbf514e762ce1c278f0ef2f701c45f0a995e482903bf", func := "loop.example/g00365/laws.FnExactSynced", spec := "fnExactSynced", inPlace := ["internal/bytealg.Compare"], unfollowed := true, recurses := true, apart := false, narrowed := true }
def FnExactSyncedUptoSaid : Prop := fnExactSyncedUptoRow.holds Tryz.pinned (OpenSpec.upto fnExactSyncedSpec)

/-- 'laws.FnExactPlan', WHERE WHAT IT READS IS OF BULK AT MOST 1048576: true; the input reads as it did. -/
def fnExactPlanUptoRow : OpenClaim := { program := "ytecleaangfcloabgreat", sum := "de663e14ecbbaebcaeaadbf514e762ce1c278f0ef2f701c45f0a995e482903bf", func := "loop.example/g00365/laws.FnExactPlan", spec := "fnExactPlan", inPlace := ["internal/bytealg.Compare"], unfollowed := true, recurses := true, apart := false, narrowed := true }
def FnExactPlanUptoSaid : Prop := fnExactPlanUptoRow.holds Tryz.pinned (OpenSpec.upto fnExactPlanSpec)

/-- 'laws.FnExactFollow', WHERE WHAT IT READS IS OF BULK AT MOST 1048576: true; the input reads as it did. -/
def fnExactFollowUptoRow : OpenClaim := { program := "ytecleaangfcloabgreat", sum := "de663e14ecbbaebcaeaadbf514e762ce1c278f0ef2f701c45f0a995e482903bf", func := "loop.example/g00365/laws.FnExactFollow", spec := "fnExactFollow", inPlace := ["internal/bytealg.Compare", "slices.overlaps[loop.example/g00365/impl.Row]", "slices.overlaps[loop.example/g00365/impl.Last]"], unfollowed := true, recurses := true, apart := false, narrowed := true }
def FnExactFollowUptoSaid : Prop := fnExactFollowUptoRow.holds Tryz.pinned (OpenSpec.upto fnExactFollowSpec)

end Rows
end Go.Proofs.YtecleaangfcloabGreat
