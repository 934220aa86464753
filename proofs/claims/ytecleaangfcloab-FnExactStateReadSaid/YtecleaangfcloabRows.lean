/-
  NARROWER THAN 'FOR EVERY INPUT', by the rows' own cells (each row's printed sentence says how): FnExactTreePut: loops.
  DERIVED. THE GIVEN ROWS OF THIS SEAT. 4 by the template 'for every input the law returns true; each argument reads behind the call as it read before'; 0 by the template 'total and deterministic' (their statements: YtecleaangfcloabTotals.lean).
  GIVEN WITH THE SEED: the statements are not yours to turn. If you find one false, say at which input.
  Laid BY PROGRAM, IN A SANDBOX (cutbox-rows.mjs): the forced cells as the released guide's own fill.sh prints them over the translation 20844ef3becd38f9… (all of the seat's roots in one cut). By AI agents, Wed Nov 11 2026. No macro, syntax, notation, axiom, sorry.
-/
import Derived.Test.YtecleaangfcloabChecked
import GoSem.Claim
import GoSem.ClaimJoined
import GoSem.ClaimMapViews
import Derived.JoinedTies
import Derived.KernelRfl
namespace Go.Proofs.Ytecleaangfcloab
/- THE CELL 'sum', in the pinned program and in every row, IS THE sha256 OF THE DUMP (.gsa) THAT YtecleaangfcloabProg.lean LOADS. Nothing in Lean hashes anything: it is a label: what it is worth is what the hold of that sum in a sandbox is worth. -/
noncomputable def Try.pinned : Pinned := { name := "ytecleaangfcloab", sum := "20844ef3becd38f9b31c3a04c44d41c99b1712697ba88d5c320f862a50357ac3", checked := Try.checked }
namespace Rows
def none {H : Type} : Left H := { results := [], args := [] }

/-- 'laws.FnExactTreePut': WHATEVER THE INPUT: true; the input reads as it did. -/
def fnExactTreePutSpec : ChangeSpec := { name := "fnExactTreePut", fn := fun _ => fun
  | [d1, d2, d3] => { results := [.lit (.bool true)], args := [d1, d2, d3] }
  | _ => none }
def fnExactTreePutRow : OpenClaim := { program := "ytecleaangfcloab", sum := "20844ef3becd38f9b31c3a04c44d41c99b1712697ba88d5c320f862a50357ac3", func := "loop.example/g00365/laws.FnExactTreePut", spec := "fnExactTreePut", inPlace := ["internal/bytealg.Compare", "slices.overlaps[loop.example/g00365/impl.entry]"], unfollowed := true, recurses := true, loops := true, apart := false }
def FnExactTreePutSaid : Prop := fnExactTreePutRow.holds Try.pinned (OpenSpec.ofChange fnExactTreePutSpec)

/-- ITS FALSE NEIGHBOUR: 'it returns false'. Refute it at one input. -/
def fnExactTreePutWrong : ChangeSpec := { name := "fnExactTreePut", fn := fun _ => fun
  | [d1, d2, d3] => { results := [.lit (.bool false)], args := [d1, d2, d3] }
  | _ => none }
def FnExactTreePutWrongFalsely : Prop := fnExactTreePutRow.holds Try.pinned (OpenSpec.ofChange fnExactTreePutWrong)

/-- 'laws.FnStates': WHATEVER THE INPUT: true; the input reads as it did. -/
def fnStatesSpec : ChangeSpec := { name := "fnStates", fn := fun _ => fun
  | [d] => { results := [.lit (.bool true)], args := [d] }
  | _ => none }
def fnStatesRow : OpenClaim := { program := "ytecleaangfcloab", sum := "20844ef3becd38f9b31c3a04c44d41c99b1712697ba88d5c320f862a50357ac3", func := "loop.example/g00365/laws.FnStates", spec := "fnStates", inPlace := ["internal/bytealg.Compare"], unfollowed := true, recurses := true, apart := false }
def FnStatesSaid : Prop := fnStatesRow.holds Try.pinned (OpenSpec.ofChange fnStatesSpec)

/-- ITS FALSE NEIGHBOUR: 'it returns false'. Refute it at one input. -/
def fnStatesWrong : ChangeSpec := { name := "fnStates", fn := fun _ => fun
  | [d] => { results := [.lit (.bool false)], args := [d] }
  | _ => none }
def FnStatesWrongFalsely : Prop := fnStatesRow.holds Try.pinned (OpenSpec.ofChange fnStatesWrong)

/-- 'laws.FnExactSnapOk': WHATEVER THE INPUT: true; the input reads as it did. -/
def fnExactSnapOkSpec : ChangeSpec := { name := "fnExactSnapOk", fn := fun _ => fun
  | [d] => { results := [.lit (.bool true)], args := [d] }
  | _ => none }
def fnExactSnapOkRow : OpenClaim := { program := "ytecleaangfcloab", sum := "20844ef3becd38f9b31c3a04c44d41c99b1712697ba88d5c320f862a50357ac3", func := "loop.example/g00365/laws.FnExactSnapOk", spec := "fnExactSnapOk", inPlace := ["internal/bytealg.Compare"], unfollowed := true, recurses := true, apart := false }
def FnExactSnapOkSaid : Prop := fnExactSnapOkRow.holds Try.pinned (OpenSpec.ofChange fnExactSnapOkSpec)

/-- ITS FALSE NEIGHBOUR: 'it returns false'. Refute it at one input. -/
def fnExactSnapOkWrong : ChangeSpec := { name := "fnExactSnapOk", fn := fun _ => fun
  | [d] => { results := [.lit (.bool false)], args := [d] }
  | _ => none }
def FnExactSnapOkWrongFalsely : Prop := fnExactSnapOkRow.holds Try.pinned (OpenSpec.ofChange fnExactSnapOkWrong)

/-- 'laws.FnExactStateRead': WHATEVER THE INPUT: true; the input reads as it did. -/
def fnExactStateReadSpec : ChangeSpec := { name := "fnExactStateRead", fn := fun _ => fun
  | [d] => { results := [.lit (.bool true)], args := [d] }
  | _ => none }
def fnExactStateReadRow : OpenClaim := { program := "ytecleaangfcloab", sum := "20844ef3becd38f9b31c3a04c44d41c99b1712697ba88d5c320f862a50357ac3", func := "loop.example/g00365/laws.FnExactStateRead", spec := "fnExactStateRead", inPlace := ["internal/bytealg.Compare"], unfollowed := true, recurses := true, apart := false }
def FnExactStateReadSaid : Prop := fnExactStateReadRow.holds Try.pinned (OpenSpec.ofChange fnExactStateReadSpec)

/-- ITS FALSE NEIGHBOUR: 'it returns false'. Refute it at one input. -/
def fnExactStateReadWrong : ChangeSpec := { name := "fnExactStateRead", fn := fun _ => fun
  | [d] => { results := [.lit (.bool false)], args := [d] }
  | _ => none }
def FnExactStateReadWrongFalsely : Prop := fnExactStateReadRow.holds Try.pinned (OpenSpec.ofChange fnExactStateReadWrong)

/- THE SECOND FORM. 'bulk': how many values and letters a reading holds, each counted each time it is reached (what is shared counts as often as it is met; a slice's spare places count too). A statement '..UptoSaid' is the law's where the arguments, and the package variables that the reading takes, are together of bulk at most 1048576: NARROWER than '..Said'. Prove '..Said' where nothing that the law and all that it calls make is longer than what came in: it says more and counts as full. Else prove '..UptoSaid'. A law counts once. -/
mutual
def uptoBulk {H : Type} : DataW H → Nat
  | .lit (.string bytes) => bytes.length + 1
  | .lit _ => 1
  | .nil => 1
  | .ptr d => uptoBulk d + 1
  | .slice elems spare => uptoBulkAll elems + uptoBulkAll spare + 1
  | .agg parts => uptoBulkAll parts + 1
  | .iface _ d => uptoBulk d + 1
  | .map entries => uptoBulkEntries entries + 1
  | .held _ => 1
def uptoBulkAll {H : Type} : List (DataW H) → Nat
  | [] => 0
  | d :: r => uptoBulk d + uptoBulkAll r
def uptoBulkEntries {H : Type} : List (Lit × DataW H) → Nat
  | [] => 0
  | x :: r => uptoBulkEntry x + uptoBulkEntries r
def uptoBulkEntry {H : Type} : Lit × DataW H → Nat
  | (.string bytes, d) => bytes.length + uptoBulk d + 1
  | (_, d) => uptoBulk d + 1
 end
def uptoSmall : (H : Type) → List (DataW H) → Bool := fun _ ds => decide (uptoBulkAll ds ≤ 1048576)
def OpenSpec.upto (s : _root_.Go.ChangeSpec) : _root_.Go.OpenSpec := { _root_.Go.OpenSpec.ofChange s with cond := some uptoSmall }

/-- 'laws.FnExactTreePut', WHERE WHAT IT READS IS OF BULK AT MOST 1048576: true; the input reads as it did. -/
def fnExactTreePutUptoRow : OpenClaim := { program := "ytecleaangfcloab", sum := "20844ef3becd38f9b31c3a04c44d41c99b1712697ba88d5c320f862a50357ac3", func := "loop.example/g00365/laws.FnExactTreePut", spec := "fnExactTreePut", inPlace := ["internal/bytealg.Compare", "slices.overlaps[loop.example/g00365/impl.entry]"], unfollowed := true, recurses := true, loops := true, apart := false, narrowed := true }
def FnExactTreePutUptoSaid : Prop := fnExactTreePutUptoRow.holds Try.pinned (OpenSpec.upto fnExactTreePutSpec)

/-- 'laws.FnStates', WHERE WHAT IT READS IS OF BULK AT MOST 1048576: true; the input reads as it did. -/
def fnStatesUptoRow : OpenClaim := { program := "ytecleaangfcloab", sum := "20844ef3becd38f9b31c3a04c44d41c99b1712697ba88d5c320f862a50357ac3", func := "loop.example/g00365/laws.FnStates", spec := "fnStates", inPlace := ["internal/bytealg.Compare"], unfollowed := true, recurses := true, apart := false, narrowed := true }
def FnStatesUptoSaid : Prop := fnStatesUptoRow.holds Try.pinned (OpenSpec.upto fnStatesSpec)

/-- 'laws.FnExactSnapOk', WHERE WHAT IT READS IS OF BULK AT MOST 1048576: true; the input reads as it did. -/
def fnExactSnapOkUptoRow : OpenClaim := { program := "ytecleaangfcloab", sum := "20844ef3becd38f9b31c3a04c44d41c99b1712697ba88d5c320f862a50357ac3", func := "loop.example/g00365/laws.FnExactSnapOk", spec := "fnExactSnapOk", inPlace := ["internal/bytealg.Compare"], unfollowed := true, recurses := true, apart := false, narrowed := true }
def FnExactSnapOkUptoSaid : Prop := fnExactSnapOkUptoRow.holds Try.pinned (OpenSpec.upto fnExactSnapOkSpec)

/-- 'laws.FnExactStateRead', WHERE WHAT IT READS IS OF BULK AT MOST 1048576: true; the input reads as it did. -/
def fnExactStateReadUptoRow : OpenClaim := { program := "ytecleaangfcloab", sum := "20844ef3becd38f9b31c3a04c44d41c99b1712697ba88d5c320f862a50357ac3", func := "loop.example/g00365/laws.FnExactStateRead", spec := "fnExactStateRead", inPlace := ["internal/bytealg.Compare"], unfollowed := true, recurses := true, apart := false, narrowed := true }
def FnExactStateReadUptoSaid : Prop := fnExactStateReadUptoRow.holds Try.pinned (OpenSpec.upto fnExactStateReadSpec)

end Rows
end Go.Proofs.Ytecleaangfcloab
