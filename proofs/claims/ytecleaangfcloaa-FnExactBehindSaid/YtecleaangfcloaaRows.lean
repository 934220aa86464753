/-
  No cell of these rows narrows 'for every input' (looked for: loops, veiled, ifaces, maps, wideKeys, modest, calm, conditions, laid).
  DERIVED. THE GIVEN ROWS OF THIS SEAT. 8 by the template 'for every input the law returns true; each argument reads behind the call as it read before'; 0 by the template 'total and deterministic' (their statements: YtecleaangfcloaaTotals.lean).
  GIVEN WITH THE SEED: the statements are not yours to turn. If you find one false, say at which input.
  Laid BY PROGRAM, IN A SANDBOX (cutbox-rows.mjs): the forced cells as the released guide's own fill.sh prints them over the translation 23736e2af7732b66… (all of the seat's roots in one cut). By AI agents, Wed Nov 11 2026. No macro, syntax, notation, axiom, sorry.
-/
import Derived.Test.YtecleaangfcloaaChecked
import GoSem.Claim
import GoSem.ClaimJoined
import GoSem.ClaimMapViews
import Derived.JoinedTies
import Derived.KernelRfl
namespace Go.Proofs.Ytecleaangfcloaa
/- THE CELL 'sum', in the pinned program and in every row, IS THE sha256 OF THE DUMP (.gsa) THAT YtecleaangfcloaaProg.lean LOADS. Nothing in Lean hashes anything: it is a label: what it is worth is what the hold of that sum in a sandbox is worth. -/
noncomputable def Try.pinned : Pinned := { name := "ytecleaangfcloaa", sum := "23736e2af7732b66c0568f546439e0a61deca6f43e6735046741df573db633c9", checked := Try.checked }
namespace Rows
def none {H : Type} : Left H := { results := [], args := [] }

/-- 'laws.FnFalls': WHATEVER THE INPUT: true; the input reads as it did. -/
def fnFallsSpec : ChangeSpec := { name := "fnFalls", fn := fun _ => fun
  | [d] => { results := [.lit (.bool true)], args := [d] }
  | _ => none }
def fnFallsRow : OpenClaim := { program := "ytecleaangfcloaa", sum := "23736e2af7732b66c0568f546439e0a61deca6f43e6735046741df573db633c9", func := "loop.example/g00365/laws.FnFalls", spec := "fnFalls", apart := false }
def FnFallsSaid : Prop := fnFallsRow.holds Try.pinned (OpenSpec.ofChange fnFallsSpec)

/-- ITS FALSE NEIGHBOUR: 'it returns false'. Refute it at one input. -/
def fnFallsWrong : ChangeSpec := { name := "fnFalls", fn := fun _ => fun
  | [d] => { results := [.lit (.bool false)], args := [d] }
  | _ => none }
def FnFallsWrongFalsely : Prop := fnFallsRow.holds Try.pinned (OpenSpec.ofChange fnFallsWrong)

/-- 'laws.FnProposes': WHATEVER THE INPUT: true; the input reads as it did. -/
def fnProposesSpec : ChangeSpec := { name := "fnProposes", fn := fun _ => fun
  | [d] => { results := [.lit (.bool true)], args := [d] }
  | _ => none }
def fnProposesRow : OpenClaim := { program := "ytecleaangfcloaa", sum := "23736e2af7732b66c0568f546439e0a61deca6f43e6735046741df573db633c9", func := "loop.example/g00365/laws.FnProposes", spec := "fnProposes", apart := false }
def FnProposesSaid : Prop := fnProposesRow.holds Try.pinned (OpenSpec.ofChange fnProposesSpec)

/-- ITS FALSE NEIGHBOUR: 'it returns false'. Refute it at one input. -/
def fnProposesWrong : ChangeSpec := { name := "fnProposes", fn := fun _ => fun
  | [d] => { results := [.lit (.bool false)], args := [d] }
  | _ => none }
def FnProposesWrongFalsely : Prop := fnProposesRow.holds Try.pinned (OpenSpec.ofChange fnProposesWrong)

/-- 'laws.FnTicks': WHATEVER THE INPUT: true; the input reads as it did. -/
def fnTicksSpec : ChangeSpec := { name := "fnTicks", fn := fun _ => fun
  | [d] => { results := [.lit (.bool true)], args := [d] }
  | _ => none }
def fnTicksRow : OpenClaim := { program := "ytecleaangfcloaa", sum := "23736e2af7732b66c0568f546439e0a61deca6f43e6735046741df573db633c9", func := "loop.example/g00365/laws.FnTicks", spec := "fnTicks", apart := false }
def FnTicksSaid : Prop := fnTicksRow.holds Try.pinned (OpenSpec.ofChange fnTicksSpec)

/-- ITS FALSE NEIGHBOUR: 'it returns false'. Refute it at one input. -/
def fnTicksWrong : ChangeSpec := { name := "fnTicks", fn := fun _ => fun
  | [d] => { results := [.lit (.bool false)], args := [d] }
  | _ => none }
def FnTicksWrongFalsely : Prop := fnTicksRow.holds Try.pinned (OpenSpec.ofChange fnTicksWrong)

/-- 'laws.FnExactBacked': WHATEVER THE INPUT: true; the input reads as it did. -/
def fnExactBackedSpec : ChangeSpec := { name := "fnExactBacked", fn := fun _ => fun
  | [d1, d2, d3] => { results := [.lit (.bool true)], args := [d1, d2, d3] }
  | _ => none }
def fnExactBackedRow : OpenClaim := { program := "ytecleaangfcloaa", sum := "23736e2af7732b66c0568f546439e0a61deca6f43e6735046741df573db633c9", func := "loop.example/g00365/laws.FnExactBacked", spec := "fnExactBacked", apart := false }
def FnExactBackedSaid : Prop := fnExactBackedRow.holds Try.pinned (OpenSpec.ofChange fnExactBackedSpec)

/-- ITS FALSE NEIGHBOUR: 'it returns false'. Refute it at one input. -/
def fnExactBackedWrong : ChangeSpec := { name := "fnExactBacked", fn := fun _ => fun
  | [d1, d2, d3] => { results := [.lit (.bool false)], args := [d1, d2, d3] }
  | _ => none }
def FnExactBackedWrongFalsely : Prop := fnExactBackedRow.holds Try.pinned (OpenSpec.ofChange fnExactBackedWrong)

/-- 'laws.FnExactBehind': WHATEVER THE INPUT: true; the input reads as it did. -/
def fnExactBehindSpec : ChangeSpec := { name := "fnExactBehind", fn := fun _ => fun
  | [d1, d2] => { results := [.lit (.bool true)], args := [d1, d2] }
  | _ => none }
def fnExactBehindRow : OpenClaim := { program := "ytecleaangfcloaa", sum := "23736e2af7732b66c0568f546439e0a61deca6f43e6735046741df573db633c9", func := "loop.example/g00365/laws.FnExactBehind", spec := "fnExactBehind", unfollowed := true, recurses := true, apart := false }
def FnExactBehindSaid : Prop := fnExactBehindRow.holds Try.pinned (OpenSpec.ofChange fnExactBehindSpec)

/-- ITS FALSE NEIGHBOUR: 'it returns false'. Refute it at one input. -/
def fnExactBehindWrong : ChangeSpec := { name := "fnExactBehind", fn := fun _ => fun
  | [d1, d2] => { results := [.lit (.bool false)], args := [d1, d2] }
  | _ => none }
def FnExactBehindWrongFalsely : Prop := fnExactBehindRow.holds Try.pinned (OpenSpec.ofChange fnExactBehindWrong)

/-- 'laws.FnExactWant': WHATEVER THE INPUT: true; the input reads as it did. -/
def fnExactWantSpec : ChangeSpec := { name := "fnExactWant", fn := fun _ => fun
  | [d] => { results := [.lit (.bool true)], args := [d] }
  | _ => none }
def fnExactWantRow : OpenClaim := { program := "ytecleaangfcloaa", sum := "23736e2af7732b66c0568f546439e0a61deca6f43e6735046741df573db633c9", func := "loop.example/g00365/laws.FnExactWant", spec := "fnExactWant", inPlace := ["internal/bytealg.Compare"], apart := false }
def FnExactWantSaid : Prop := fnExactWantRow.holds Try.pinned (OpenSpec.ofChange fnExactWantSpec)

/-- ITS FALSE NEIGHBOUR: 'it returns false'. Refute it at one input. -/
def fnExactWantWrong : ChangeSpec := { name := "fnExactWant", fn := fun _ => fun
  | [d] => { results := [.lit (.bool false)], args := [d] }
  | _ => none }
def FnExactWantWrongFalsely : Prop := fnExactWantRow.holds Try.pinned (OpenSpec.ofChange fnExactWantWrong)

/-- 'laws.FnExactLocalTick': WHATEVER THE INPUT: true; the input reads as it did. -/
def fnExactLocalTickSpec : ChangeSpec := { name := "fnExactLocalTick", fn := fun _ => fun
  | [d1, d2] => { results := [.lit (.bool true)], args := [d1, d2] }
  | _ => none }
def fnExactLocalTickRow : OpenClaim := { program := "ytecleaangfcloaa", sum := "23736e2af7732b66c0568f546439e0a61deca6f43e6735046741df573db633c9", func := "loop.example/g00365/laws.FnExactLocalTick", spec := "fnExactLocalTick", inPlace := ["internal/bytealg.Compare"], apart := false }
def FnExactLocalTickSaid : Prop := fnExactLocalTickRow.holds Try.pinned (OpenSpec.ofChange fnExactLocalTickSpec)

/-- ITS FALSE NEIGHBOUR: 'it returns false'. Refute it at one input. -/
def fnExactLocalTickWrong : ChangeSpec := { name := "fnExactLocalTick", fn := fun _ => fun
  | [d1, d2] => { results := [.lit (.bool false)], args := [d1, d2] }
  | _ => none }
def FnExactLocalTickWrongFalsely : Prop := fnExactLocalTickRow.holds Try.pinned (OpenSpec.ofChange fnExactLocalTickWrong)

/-- 'laws.FnTrees': WHATEVER THE INPUT: true; the input reads as it did. -/
def fnTreesSpec : ChangeSpec := { name := "fnTrees", fn := fun _ => fun
  | [d] => { results := [.lit (.bool true)], args := [d] }
  | _ => none }
def fnTreesRow : OpenClaim := { program := "ytecleaangfcloaa", sum := "23736e2af7732b66c0568f546439e0a61deca6f43e6735046741df573db633c9", func := "loop.example/g00365/laws.FnTrees", spec := "fnTrees", inPlace := ["internal/bytealg.Compare", "slices.overlaps[loop.example/g00365/impl.entry]"], unfollowed := true, recurses := true, apart := false }
def FnTreesSaid : Prop := fnTreesRow.holds Try.pinned (OpenSpec.ofChange fnTreesSpec)

/-- ITS FALSE NEIGHBOUR: 'it returns false'. Refute it at one input. -/
def fnTreesWrong : ChangeSpec := { name := "fnTrees", fn := fun _ => fun
  | [d] => { results := [.lit (.bool false)], args := [d] }
  | _ => none }
def FnTreesWrongFalsely : Prop := fnTreesRow.holds Try.pinned (OpenSpec.ofChange fnTreesWrong)

/- THE SECOND FORM. 'bulk': how many values and letters a reading holds, each counted each time it is reached (what is shared counts as often as it is met; a slice's spare places count too). A statement '..UptoSaid' is the law's where the arguments, and the package variables that the reading takes, are together of bulk at most 1048576: NARROWER than '..Said'. Prove '..Said' where nothing that the law and all that it calls make is longer than what came in: it says more and counts as full. Else prove '..UptoSaid'. A law counts once. -/
mutual
def uptoBulk {H : Type} : DataW H → Nat
  | .lit (.string bytes) => bytes.length + 1
  | .lit _ => 1
  | .nil => 1
  | .ptr d => uptoBulk d + 1
  | .slice elems spare => uptoBulkAll elems + uptoBulkAll spare + 1
  | .agg parts => uptoBulkAll parts + 1
  | .iface _ d => uptoBulk d + 1
  | .map entries => uptoBulkEntries entries + 1
  | .held _ => 1
def uptoBulkAll {H : Type} : List (DataW H) → Nat
  | [] => 0
  | d :: r => uptoBulk d + uptoBulkAll r
def uptoBulkEntries {H : Type} : List (Lit × DataW H) → Nat
  | [] => 0
  | x :: r => uptoBulkEntry x + uptoBulkEntries r
def uptoBulkEntry {H : Type} : Lit × DataW H → Nat
  | (.string bytes, d) => bytes.length + uptoBulk d + 1
  | (_, d) => uptoBulk d + 1
 end
def uptoSmall : (H : Type) → List (DataW H) → Bool := fun _ ds => decide (uptoBulkAll ds ≤ 1048576)
def OpenSpec.upto (s : _root_.Go.ChangeSpec) : _root_.Go.OpenSpec := { _root_.Go.OpenSpec.ofChange s with cond := some uptoSmall }

/-- 'laws.FnFalls', WHERE WHAT IT READS IS OF BULK AT MOST 1048576: true; the input reads as it did. -/
def fnFallsUptoRow : OpenClaim := { program := "ytecleaangfcloaa", sum := "23736e2af7732b66c0568f546439e0a61deca6f43e6735046741df573db633c9", func := "loop.example/g00365/laws.FnFalls", spec := "fnFalls", apart := false, narrowed := true }
def FnFallsUptoSaid : Prop := fnFallsUptoRow.holds Try.pinned (OpenSpec.upto fnFallsSpec)

/-- 'laws.FnProposes', WHERE WHAT IT READS IS OF BULK AT MOST 1048576: true; the input reads as it did. -/
def fnProposesUptoRow : OpenClaim := { program := "ytecleaangfcloaa", sum := "23736e2af7732b66c0568f546439e0a61deca6f43e6735046741df573db633c9", func := "loop.example/g00365/laws.FnProposes", spec := "fnProposes", apart := false, narrowed := true }
def FnProposesUptoSaid : Prop := fnProposesUptoRow.holds Try.pinned (OpenSpec.upto fnProposesSpec)

/-- 'laws.FnTicks', WHERE WHAT IT READS IS OF BULK AT MOST 1048576: true; the input reads as it did. -/
def fnTicksUptoRow : OpenClaim := { program := "ytecleaangfcloaa", sum := "23736e2af7732b66c0568f546439e0a61deca6f43e6735046741df573db633c9", func := "loop.example/g00365/laws.FnTicks", spec := "fnTicks", apart := false, narrowed := true }
def FnTicksUptoSaid : Prop := fnTicksUptoRow.holds Try.pinned (OpenSpec.upto fnTicksSpec)

/-- 'laws.FnExactBacked', WHERE WHAT IT READS IS OF BULK AT MOST 1048576: true; the input reads as it did. -/
def fnExactBackedUptoRow : OpenClaim := { program := "ytecleaangfcloaa", sum := "23736e2af7732b66c0568f546439e0a61deca6f43e6735046741df573db633c9", func := "loop.example/g00365/laws.FnExactBacked", spec := "fnExactBacked", apart := false, narrowed := true }
def FnExactBackedUptoSaid : Prop := fnExactBackedUptoRow.holds Try.pinned (OpenSpec.upto fnExactBackedSpec)

/-- 'laws.FnExactBehind', WHERE WHAT IT READS IS OF BULK AT MOST 1048576: true; the input reads as it did. -/
def fnExactBehindUptoRow : OpenClaim := { program := "ytecleaangfcloaa", sum := "23736e2af7732b66c0568f546439e0a61deca6f43e6735046741df573db633c9", func := "loop.example/g00365/laws.FnExactBehind", spec := "fnExactBehind", unfollowed := true, recurses := true, apart := false, narrowed := true }
def FnExactBehindUptoSaid : Prop := fnExactBehindUptoRow.holds Try.pinned (OpenSpec.upto fnExactBehindSpec)

/-- 'laws.FnExactWant', WHERE WHAT IT READS IS OF BULK AT MOST 1048576: true; the input reads as it did. -/
def fnExactWantUptoRow : OpenClaim := { program := "ytecleaangfcloaa", sum := "23736e2af7732b66c0568f546439e0a61deca6f43e6735046741df573db633c9", func := "loop.example/g00365/laws.FnExactWant", spec := "fnExactWant", inPlace := ["internal/bytealg.Compare"], apart := false, narrowed := true }
def FnExactWantUptoSaid : Prop := fnExactWantUptoRow.holds Try.pinned (OpenSpec.upto fnExactWantSpec)

/-- 'laws.FnExactLocalTick', WHERE WHAT IT READS IS OF BULK AT MOST 1048576: true; the input reads as it did. -/
def fnExactLocalTickUptoRow : OpenClaim := { program := "ytecleaangfcloaa", sum := "23736e2af7732b66c0568f546439e0a61deca6f43e6735046741df573db633c9", func := "loop.example/g00365/laws.FnExactLocalTick", spec := "fnExactLocalTick", inPlace := ["internal/bytealg.Compare"], apart := false, narrowed := true }
def FnExactLocalTickUptoSaid : Prop := fnExactLocalTickUptoRow.holds Try.pinned (OpenSpec.upto fnExactLocalTickSpec)

/-- 'laws.FnTrees', WHERE WHAT IT READS IS OF BULK AT MOST 1048576: true; the input reads as it did. -/
def fnTreesUptoRow : OpenClaim := { program := "ytecleaangfcloaa", sum := "23736e2af7732b66c0568f546439e0a61deca6f43e6735046741df573db633c9", func := "loop.example/g00365/laws.FnTrees", spec := "fnTrees", inPlace := ["internal/bytealg.Compare", "slices.overlaps[loop.example/g00365/impl.entry]"], unfollowed := true, recurses := true, apart := false, narrowed := true }
def FnTreesUptoSaid : Prop := fnTreesUptoRow.holds Try.pinned (OpenSpec.upto fnTreesSpec)

end Rows
end Go.Proofs.Ytecleaangfcloaa
