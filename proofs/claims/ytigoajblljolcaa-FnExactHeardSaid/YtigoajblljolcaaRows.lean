/-
  No cell of these rows narrows 'for every input' (looked for: loops, veiled, ifaces, maps, wideKeys, modest, calm, conditions, laid).
  DERIVED. THE GIVEN ROWS OF THIS SEAT. 12 by the template 'for every input the law returns true; each argument reads behind the call as it read before'; 0 by the template 'total and deterministic' (their statements: YtigoajblljolcaaTotals.lean).
  GIVEN WITH THE SEED: the statements are not yours to turn. If you find one false, say at which input.
  Laid BY PROGRAM, IN A SANDBOX (cutbox-rows.mjs): the forced cells as the released guide's own fill.sh prints them over the translation 1d1c6dfd90a91f8f… (all of the seat's roots in one cut). By AI agents, Wed Nov 11 2026. No macro, syntax, notation, axiom, sorry.
-/
import Derived.Test.YtigoajblljolcaaChecked
import GoSem.Claim
import GoSem.ClaimJoined
import GoSem.ClaimMapViews
import Derived.JoinedTies
import Derived.KernelRfl
namespace Go.Proofs.Ytigoajblljolcaa
/- THE CELL 'sum', in the pinned program and in every row, IS THE sha256 OF THE DUMP (.gsa) THAT YtigoajblljolcaaProg.lean LOADS. Nothing in Lean hashes anything: it is a label: what it is worth is what the hold of that sum in a sandbox is worth. -/
noncomputable def Try.pinned : Pinned := { name := "ytigoajblljolcaa", sum := "1d1c6dfd90a91f8fe5ac2836c63ed833ae29ffd0b955d240aa1074f709729f29", checked := Try.checked }
namespace Rows
def none {H : Type} : Left H := { results := [], args := [] }

/-- 'laws.FnChecks': WHATEVER THE INPUT: true; the input reads as it did. -/
def fnChecksSpec : ChangeSpec := { name := "fnChecks", fn := fun _ => fun
  | [d] => { results := [.lit (.bool true)], args := [d] }
  | _ => none }
def fnChecksRow : OpenClaim := { program := "ytigoajblljolcaa", sum := "1d1c6dfd90a91f8fe5ac2836c63ed833ae29ffd0b955d240aa1074f709729f29", func := "loop.example/g00365/laws.FnChecks", spec := "fnChecks", apart := false }
def FnChecksSaid : Prop := fnChecksRow.holds Try.pinned (OpenSpec.ofChange fnChecksSpec)

/-- ITS FALSE NEIGHBOUR: 'it returns false'. Refute it at one input. -/
def fnChecksWrong : ChangeSpec := { name := "fnChecks", fn := fun _ => fun
  | [d] => { results := [.lit (.bool false)], args := [d] }
  | _ => none }
def FnChecksWrongFalsely : Prop := fnChecksRow.holds Try.pinned (OpenSpec.ofChange fnChecksWrong)

/-- 'laws.FnExactLeave': WHATEVER THE INPUT: true; the input reads as it did. -/
def fnExactLeaveSpec : ChangeSpec := { name := "fnExactLeave", fn := fun _ => fun
  | [d] => { results := [.lit (.bool true)], args := [d] }
  | _ => none }
def fnExactLeaveRow : OpenClaim := { program := "ytigoajblljolcaa", sum := "1d1c6dfd90a91f8fe5ac2836c63ed833ae29ffd0b955d240aa1074f709729f29", func := "loop.example/g00365/laws.FnExactLeave", spec := "fnExactLeave", unfollowed := true, recurses := true, apart := false }
def FnExactLeaveSaid : Prop := fnExactLeaveRow.holds Try.pinned (OpenSpec.ofChange fnExactLeaveSpec)

/-- ITS FALSE NEIGHBOUR: 'it returns false'. Refute it at one input. -/
def fnExactLeaveWrong : ChangeSpec := { name := "fnExactLeave", fn := fun _ => fun
  | [d] => { results := [.lit (.bool false)], args := [d] }
  | _ => none }
def FnExactLeaveWrongFalsely : Prop := fnExactLeaveRow.holds Try.pinned (OpenSpec.ofChange fnExactLeaveWrong)

/-- 'laws.FnExactWheelStop': WHATEVER THE INPUT: true; the input reads as it did. -/
def fnExactWheelStopSpec : ChangeSpec := { name := "fnExactWheelStop", fn := fun _ => fun
  | [d1, d2] => { results := [.lit (.bool true)], args := [d1, d2] }
  | _ => none }
def fnExactWheelStopRow : OpenClaim := { program := "ytigoajblljolcaa", sum := "1d1c6dfd90a91f8fe5ac2836c63ed833ae29ffd0b955d240aa1074f709729f29", func := "loop.example/g00365/laws.FnExactWheelStop", spec := "fnExactWheelStop", unfollowed := true, recurses := true, apart := false }
def FnExactWheelStopSaid : Prop := fnExactWheelStopRow.holds Try.pinned (OpenSpec.ofChange fnExactWheelStopSpec)

/-- ITS FALSE NEIGHBOUR: 'it returns false'. Refute it at one input. -/
def fnExactWheelStopWrong : ChangeSpec := { name := "fnExactWheelStop", fn := fun _ => fun
  | [d1, d2] => { results := [.lit (.bool false)], args := [d1, d2] }
  | _ => none }
def FnExactWheelStopWrongFalsely : Prop := fnExactWheelStopRow.holds Try.pinned (OpenSpec.ofChange fnExactWheelStopWrong)

/-- 'laws.FnExactBury': WHATEVER THE INPUT: true; the input reads as it did. -/
def fnExactBurySpec : ChangeSpec := { name := "fnExactBury", fn := fun _ => fun
  | [d1, d2] => { results := [.lit (.bool true)], args := [d1, d2] }
  | _ => none }
def fnExactBuryRow : OpenClaim := { program := "ytigoajblljolcaa", sum := "1d1c6dfd90a91f8fe5ac2836c63ed833ae29ffd0b955d240aa1074f709729f29", func := "loop.example/g00365/laws.FnExactBury", spec := "fnExactBury", unfollowed := true, recurses := true, apart := false }
def FnExactBurySaid : Prop := fnExactBuryRow.holds Try.pinned (OpenSpec.ofChange fnExactBurySpec)

/-- ITS FALSE NEIGHBOUR: 'it returns false'. Refute it at one input. -/
def fnExactBuryWrong : ChangeSpec := { name := "fnExactBury", fn := fun _ => fun
  | [d1, d2] => { results := [.lit (.bool false)], args := [d1, d2] }
  | _ => none }
def FnExactBuryWrongFalsely : Prop := fnExactBuryRow.holds Try.pinned (OpenSpec.ofChange fnExactBuryWrong)

/-- 'laws.FnExactSuspect': WHATEVER THE INPUT: true; the input reads as it did. -/
def fnExactSuspectSpec : ChangeSpec := { name := "fnExactSuspect", fn := fun _ => fun
  | [d1, d2] => { results := [.lit (.bool true)], args := [d1, d2] }
  | _ => none }
def fnExactSuspectRow : OpenClaim := { program := "ytigoajblljolcaa", sum := "1d1c6dfd90a91f8fe5ac2836c63ed833ae29ffd0b955d240aa1074f709729f29", func := "loop.example/g00365/laws.FnExactSuspect", spec := "fnExactSuspect", unfollowed := true, recurses := true, apart := false }
def FnExactSuspectSaid : Prop := fnExactSuspectRow.holds Try.pinned (OpenSpec.ofChange fnExactSuspectSpec)

/-- ITS FALSE NEIGHBOUR: 'it returns false'. Refute it at one input. -/
def fnExactSuspectWrong : ChangeSpec := { name := "fnExactSuspect", fn := fun _ => fun
  | [d1, d2] => { results := [.lit (.bool false)], args := [d1, d2] }
  | _ => none }
def FnExactSuspectWrongFalsely : Prop := fnExactSuspectRow.holds Try.pinned (OpenSpec.ofChange fnExactSuspectWrong)

/-- 'laws.FnExactWheelTick': WHATEVER THE INPUT: true; the input reads as it did. -/
def fnExactWheelTickSpec : ChangeSpec := { name := "fnExactWheelTick", fn := fun _ => fun
  | [d1, d2] => { results := [.lit (.bool true)], args := [d1, d2] }
  | _ => none }
def fnExactWheelTickRow : OpenClaim := { program := "ytigoajblljolcaa", sum := "1d1c6dfd90a91f8fe5ac2836c63ed833ae29ffd0b955d240aa1074f709729f29", func := "loop.example/g00365/laws.FnExactWheelTick", spec := "fnExactWheelTick", unfollowed := true, recurses := true, apart := false }
def FnExactWheelTickSaid : Prop := fnExactWheelTickRow.holds Try.pinned (OpenSpec.ofChange fnExactWheelTickSpec)

/-- ITS FALSE NEIGHBOUR: 'it returns false'. Refute it at one input. -/
def fnExactWheelTickWrong : ChangeSpec := { name := "fnExactWheelTick", fn := fun _ => fun
  | [d1, d2] => { results := [.lit (.bool false)], args := [d1, d2] }
  | _ => none }
def FnExactWheelTickWrongFalsely : Prop := fnExactWheelTickRow.holds Try.pinned (OpenSpec.ofChange fnExactWheelTickWrong)

/-- 'laws.FnExactLocalOk': WHATEVER THE INPUT: true; the input reads as it did. -/
def fnExactLocalOkSpec : ChangeSpec := { name := "fnExactLocalOk", fn := fun _ => fun
  | [d] => { results := [.lit (.bool true)], args := [d] }
  | _ => none }
def fnExactLocalOkRow : OpenClaim := { program := "ytigoajblljolcaa", sum := "1d1c6dfd90a91f8fe5ac2836c63ed833ae29ffd0b955d240aa1074f709729f29", func := "loop.example/g00365/laws.FnExactLocalOk", spec := "fnExactLocalOk", inPlace := ["internal/bytealg.Compare"], apart := false }
def FnExactLocalOkSaid : Prop := fnExactLocalOkRow.holds Try.pinned (OpenSpec.ofChange fnExactLocalOkSpec)

/-- ITS FALSE NEIGHBOUR: 'it returns false'. Refute it at one input. -/
def fnExactLocalOkWrong : ChangeSpec := { name := "fnExactLocalOk", fn := fun _ => fun
  | [d] => { results := [.lit (.bool false)], args := [d] }
  | _ => none }
def FnExactLocalOkWrongFalsely : Prop := fnExactLocalOkRow.holds Try.pinned (OpenSpec.ofChange fnExactLocalOkWrong)

/-- 'laws.FnExactHeard': WHATEVER THE INPUT: true; the input reads as it did. -/
def fnExactHeardSpec : ChangeSpec := { name := "fnExactHeard", fn := fun _ => fun
  | [d1, d2] => { results := [.lit (.bool true)], args := [d1, d2] }
  | _ => none }
def fnExactHeardRow : OpenClaim := { program := "ytigoajblljolcaa", sum := "1d1c6dfd90a91f8fe5ac2836c63ed833ae29ffd0b955d240aa1074f709729f29", func := "loop.example/g00365/laws.FnExactHeard", spec := "fnExactHeard", inPlace := ["slices.overlaps[loop.example/g00365/impl.Member]"], unfollowed := true, recurses := true, apart := false }
def FnExactHeardSaid : Prop := fnExactHeardRow.holds Try.pinned (OpenSpec.ofChange fnExactHeardSpec)

/-- ITS FALSE NEIGHBOUR: 'it returns false'. Refute it at one input. -/
def fnExactHeardWrong : ChangeSpec := { name := "fnExactHeard", fn := fun _ => fun
  | [d1, d2] => { results := [.lit (.bool false)], args := [d1, d2] }
  | _ => none }
def FnExactHeardWrongFalsely : Prop := fnExactHeardRow.holds Try.pinned (OpenSpec.ofChange fnExactHeardWrong)

/-- 'laws.FnExactMerge': WHATEVER THE INPUT: true; the input reads as it did. -/
def fnExactMergeSpec : ChangeSpec := { name := "fnExactMerge", fn := fun _ => fun
  | [d1, d2] => { results := [.lit (.bool true)], args := [d1, d2] }
  | _ => none }
def fnExactMergeRow : OpenClaim := { program := "ytigoajblljolcaa", sum := "1d1c6dfd90a91f8fe5ac2836c63ed833ae29ffd0b955d240aa1074f709729f29", func := "loop.example/g00365/laws.FnExactMerge", spec := "fnExactMerge", inPlace := ["slices.overlaps[loop.example/g00365/impl.Member]"], unfollowed := true, recurses := true, apart := false }
def FnExactMergeSaid : Prop := fnExactMergeRow.holds Try.pinned (OpenSpec.ofChange fnExactMergeSpec)

/-- ITS FALSE NEIGHBOUR: 'it returns false'. Refute it at one input. -/
def fnExactMergeWrong : ChangeSpec := { name := "fnExactMerge", fn := fun _ => fun
  | [d1, d2] => { results := [.lit (.bool false)], args := [d1, d2] }
  | _ => none }
def FnExactMergeWrongFalsely : Prop := fnExactMergeRow.holds Try.pinned (OpenSpec.ofChange fnExactMergeWrong)

/-- 'laws.FnExactHelpers': WHATEVER THE INPUT: true; the input reads as it did. -/
def fnExactHelpersSpec : ChangeSpec := { name := "fnExactHelpers", fn := fun _ => fun
  | [d1, d2, d3] => { results := [.lit (.bool true)], args := [d1, d2, d3] }
  | _ => none }
def fnExactHelpersRow : OpenClaim := { program := "ytigoajblljolcaa", sum := "1d1c6dfd90a91f8fe5ac2836c63ed833ae29ffd0b955d240aa1074f709729f29", func := "loop.example/g00365/laws.FnExactHelpers", spec := "fnExactHelpers", unfollowed := true, recurses := true, apart := false }
def FnExactHelpersSaid : Prop := fnExactHelpersRow.holds Try.pinned (OpenSpec.ofChange fnExactHelpersSpec)

/-- ITS FALSE NEIGHBOUR: 'it returns false'. Refute it at one input. -/
def fnExactHelpersWrong : ChangeSpec := { name := "fnExactHelpers", fn := fun _ => fun
  | [d1, d2, d3] => { results := [.lit (.bool false)], args := [d1, d2, d3] }
  | _ => none }
def FnExactHelpersWrongFalsely : Prop := fnExactHelpersRow.holds Try.pinned (OpenSpec.ofChange fnExactHelpersWrong)

/-- 'laws.FnExactNextProbe': WHATEVER THE INPUT: true; the input reads as it did. -/
def fnExactNextProbeSpec : ChangeSpec := { name := "fnExactNextProbe", fn := fun _ => fun
  | [d1, d2] => { results := [.lit (.bool true)], args := [d1, d2] }
  | _ => none }
def fnExactNextProbeRow : OpenClaim := { program := "ytigoajblljolcaa", sum := "1d1c6dfd90a91f8fe5ac2836c63ed833ae29ffd0b955d240aa1074f709729f29", func := "loop.example/g00365/laws.FnExactNextProbe", spec := "fnExactNextProbe", unfollowed := true, recurses := true, apart := false }
def FnExactNextProbeSaid : Prop := fnExactNextProbeRow.holds Try.pinned (OpenSpec.ofChange fnExactNextProbeSpec)

/-- ITS FALSE NEIGHBOUR: 'it returns false'. Refute it at one input. -/
def fnExactNextProbeWrong : ChangeSpec := { name := "fnExactNextProbe", fn := fun _ => fun
  | [d1, d2] => { results := [.lit (.bool false)], args := [d1, d2] }
  | _ => none }
def FnExactNextProbeWrongFalsely : Prop := fnExactNextProbeRow.holds Try.pinned (OpenSpec.ofChange fnExactNextProbeWrong)

/-- 'laws.FnExactProbeTick': WHATEVER THE INPUT: true; the input reads as it did. -/
def fnExactProbeTickSpec : ChangeSpec := { name := "fnExactProbeTick", fn := fun _ => fun
  | [d1, d2] => { results := [.lit (.bool true)], args := [d1, d2] }
  | _ => none }
def fnExactProbeTickRow : OpenClaim := { program := "ytigoajblljolcaa", sum := "1d1c6dfd90a91f8fe5ac2836c63ed833ae29ffd0b955d240aa1074f709729f29", func := "loop.example/g00365/laws.FnExactProbeTick", spec := "fnExactProbeTick", unfollowed := true, recurses := true, apart := false }
def FnExactProbeTickSaid : Prop := fnExactProbeTickRow.holds Try.pinned (OpenSpec.ofChange fnExactProbeTickSpec)

/-- ITS FALSE NEIGHBOUR: 'it returns false'. Refute it at one input. -/
def fnExactProbeTickWrong : ChangeSpec := { name := "fnExactProbeTick", fn := fun _ => fun
  | [d1, d2] => { results := [.lit (.bool false)], args := [d1, d2] }
  | _ => none }
def FnExactProbeTickWrongFalsely : Prop := fnExactProbeTickRow.holds Try.pinned (OpenSpec.ofChange fnExactProbeTickWrong)

/- THE SECOND FORM. 'bulk': how many values and letters a reading holds, each counted each time it is reached (what is shared counts as often as it is met; a slice's spare places count too). A statement '..UptoSaid' is the law's where the arguments, and the package variables that the reading takes, are together of bulk at most 1048576: NARROWER than '..Said'. Prove '..Said' where nothing that the law and all that it calls make is longer than what came in: it says more and counts as full. Else prove '..UptoSaid'. A law counts once. -/
mutual
def uptoBulk {H : Type} : DataW H → Nat
  | .lit (.string bytes) => bytes.length + 1
  | .lit _ => 1
  | .nil => 1
  | .ptr d => uptoBulk d + 1
  | .slice elems spare => uptoBulkAll elems + uptoBulkAll spare + 1
  | .agg parts => uptoBulkAll parts + 1
  | .iface _ d => uptoBulk d + 1
  | .map entries => uptoBulkEntries entries + 1
  | .held _ => 1
def uptoBulkAll {H : Type} : List (DataW H) → Nat
  | [] => 0
  | d :: r => uptoBulk d + uptoBulkAll r
def uptoBulkEntries {H : Type} : List (Lit × DataW H) → Nat
  | [] => 0
  | x :: r => uptoBulkEntry x + uptoBulkEntries r
def uptoBulkEntry {H : Type} : Lit × DataW H → Nat
  | (.string bytes, d) => bytes.length + uptoBulk d + 1
  | (_, d) => uptoBulk d + 1
 end
def uptoSmall : (H : Type) → List (DataW H) → Bool := fun _ ds => decide (uptoBulkAll ds ≤ 1048576)
def OpenSpec.upto (s : _root_.Go.ChangeSpec) : _root_.Go.OpenSpec := { _root_.Go.OpenSpec.ofChange s with cond := some uptoSmall }

/-- 'laws.FnChecks', WHERE WHAT IT READS IS OF BULK AT MOST 1048576: true; the input reads as it did. -/
def fnChecksUptoRow : OpenClaim := { program := "ytigoajblljolcaa", sum := "1d1c6dfd90a91f8fe5ac2836c63ed833ae29ffd0b955d240aa1074f709729f29", func := "loop.example/g00365/laws.FnChecks", spec := "fnChecks", apart := false, narrowed := true }
def FnChecksUptoSaid : Prop := fnChecksUptoRow.holds Try.pinned (OpenSpec.upto fnChecksSpec)

/-- 'laws.FnExactLeave', WHERE WHAT IT READS IS OF BULK AT MOST 1048576: true; the input reads as it did. -/
def fnExactLeaveUptoRow : OpenClaim := { program := "ytigoajblljolcaa", sum := "1d1c6dfd90a91f8fe5ac2836c63ed833ae29ffd0b955d240aa1074f709729f29", func := "loop.example/g00365/laws.FnExactLeave", spec := "fnExactLeave", unfollowed := true, recurses := true, apart := false, narrowed := true }
def FnExactLeaveUptoSaid : Prop := fnExactLeaveUptoRow.holds Try.pinned (OpenSpec.upto fnExactLeaveSpec)

/-- 'laws.FnExactWheelStop', WHERE WHAT IT READS IS OF BULK AT MOST 1048576: true; the input reads as it did. -/
def fnExactWheelStopUptoRow : OpenClaim := { program := "ytigoajblljolcaa", sum := "1d1c6dfd90a91f8fe5ac2836c63ed833ae29ffd0b955d240aa1074f709729f29", func := "loop.example/g00365/laws.FnExactWheelStop", spec := "fnExactWheelStop", unfollowed := true, recurses := true, apart := false, narrowed := true }
def FnExactWheelStopUptoSaid : Prop := fnExactWheelStopUptoRow.holds Try.pinned (OpenSpec.upto fnExactWheelStopSpec)

/-- 'laws.FnExactBury', WHERE WHAT IT READS IS OF BULK AT MOST 1048576: true; the input reads as it did. -/
def fnExactBuryUptoRow : OpenClaim := { program := "ytigoajblljolcaa", sum := "1d1c6dfd90a91f8fe5ac2836c63ed833ae29ffd0b955d240aa1074f709729f29", func := "loop.example/g00365/laws.FnExactBury", spec := "fnExactBury", unfollowed := true, recurses := true, apart := false, narrowed := true }
def FnExactBuryUptoSaid : Prop := fnExactBuryUptoRow.holds Try.pinned (OpenSpec.upto fnExactBurySpec)

/-- 'laws.FnExactSuspect', WHERE WHAT IT READS IS OF BULK AT MOST 1048576: true; the input reads as it did. -/
def fnExactSuspectUptoRow : OpenClaim := { program := "ytigoajblljolcaa", sum := "1d1c6dfd90a91f8fe5ac2836c63ed833ae29ffd0b955d240aa1074f709729f29", func := "loop.example/g00365/laws.FnExactSuspect", spec := "fnExactSuspect", unfollowed := true, recurses := true, apart := false, narrowed := true }
def FnExactSuspectUptoSaid : Prop := fnExactSuspectUptoRow.holds Try.pinned (OpenSpec.upto fnExactSuspectSpec)

/-- 'laws.FnExactWheelTick', WHERE WHAT IT READS IS OF BULK AT MOST 1048576: true; the input reads as it did. -/
def fnExactWheelTickUptoRow : OpenClaim := { program := "ytigoajblljolcaa", sum := "1d1c6dfd90a91f8fe5ac2836c63ed833ae29ffd0b955d240aa1074f709729f29", func := "loop.example/g00365/laws.FnExactWheelTick", spec := "fnExactWheelTick", unfollowed := true, recurses := true, apart := false, narrowed := true }
def FnExactWheelTickUptoSaid : Prop := fnExactWheelTickUptoRow.holds Try.pinned (OpenSpec.upto fnExactWheelTickSpec)

/-- 'laws.FnExactLocalOk', WHERE WHAT IT READS IS OF BULK AT MOST 1048576: true; the input reads as it did. -/
def fnExactLocalOkUptoRow : OpenClaim := { program := "ytigoajblljolcaa", sum := "1d1c6dfd90a91f8fe5ac2836c63ed833ae29ffd0b955d240aa1074f709729f29", func := "loop.example/g00365/laws.FnExactLocalOk", spec := "fnExactLocalOk", inPlace := ["internal/bytealg.Compare"], apart := false, narrowed := true }
def FnExactLocalOkUptoSaid : Prop := fnExactLocalOkUptoRow.holds Try.pinned (OpenSpec.upto fnExactLocalOkSpec)

/-- 'laws.FnExactHeard', WHERE WHAT IT READS IS OF BULK AT MOST 1048576: true; the input reads as it did. -/
def fnExactHeardUptoRow : OpenClaim := { program := "ytigoajblljolcaa", sum := "1d1c6dfd90a91f8fe5ac2836c63ed833ae29ffd0b955d240aa1074f709729f29", func := "loop.example/g00365/laws.FnExactHeard", spec := "fnExactHeard", inPlace := ["slices.overlaps[loop.example/g00365/impl.Member]"], unfollowed := true, recurses := true, apart := false, narrowed := true }
def FnExactHeardUptoSaid : Prop := fnExactHeardUptoRow.holds Try.pinned (OpenSpec.upto fnExactHeardSpec)

/-- 'laws.FnExactMerge', WHERE WHAT IT READS IS OF BULK AT MOST 1048576: true; the input reads as it did. -/
def fnExactMergeUptoRow : OpenClaim := { program := "ytigoajblljolcaa", sum := "1d1c6dfd90a91f8fe5ac2836c63ed833ae29ffd0b955d240aa1074f709729f29", func := "loop.example/g00365/laws.FnExactMerge", spec := "fnExactMerge", inPlace := ["slices.overlaps[loop.example/g00365/impl.Member]"], unfollowed := true, recurses := true, apart := false, narrowed := true }
def FnExactMergeUptoSaid : Prop := fnExactMergeUptoRow.holds Try.pinned (OpenSpec.upto fnExactMergeSpec)

/-- 'laws.FnExactHelpers', WHERE WHAT IT READS IS OF BULK AT MOST 1048576: true; the input reads as it did. -/
def fnExactHelpersUptoRow : OpenClaim := { program := "ytigoajblljolcaa", sum := "1d1c6dfd90a91f8fe5ac2836c63ed833ae29ffd0b955d240aa1074f709729f29", func := "loop.example/g00365/laws.FnExactHelpers", spec := "fnExactHelpers", unfollowed := true, recurses := true, apart := false, narrowed := true }
def FnExactHelpersUptoSaid : Prop := fnExactHelpersUptoRow.holds Try.pinned (OpenSpec.upto fnExactHelpersSpec)

/-- 'laws.FnExactNextProbe', WHERE WHAT IT READS IS OF BULK AT MOST 1048576: true; the input reads as it did. -/
def fnExactNextProbeUptoRow : OpenClaim := { program := "ytigoajblljolcaa", sum := "1d1c6dfd90a91f8fe5ac2836c63ed833ae29ffd0b955d240aa1074f709729f29", func := "loop.example/g00365/laws.FnExactNextProbe", spec := "fnExactNextProbe", unfollowed := true, recurses := true, apart := false, narrowed := true }
def FnExactNextProbeUptoSaid : Prop := fnExactNextProbeUptoRow.holds Try.pinned (OpenSpec.upto fnExactNextProbeSpec)

/-- 'laws.FnExactProbeTick', WHERE WHAT IT READS IS OF BULK AT MOST 1048576: true; the input reads as it did. -/
def fnExactProbeTickUptoRow : OpenClaim := { program := "ytigoajblljolcaa", sum := "1d1c6dfd90a91f8fe5ac2836c63ed833ae29ffd0b955d240aa1074f709729f29", func := "loop.example/g00365/laws.FnExactProbeTick", spec := "fnExactProbeTick", unfollowed := true, recurses := true, apart := false, narrowed := true }
def FnExactProbeTickUptoSaid : Prop := fnExactProbeTickUptoRow.holds Try.pinned (OpenSpec.upto fnExactProbeTickSpec)

end Rows
end Go.Proofs.Ytigoajblljolcaa
