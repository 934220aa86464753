/-
  No cell of these rows narrows 'for every input' (looked for: loops, veiled, ifaces, maps, wideKeys, modest, calm, conditions, laid).
  DERIVED. THE GIVEN ROWS OF THIS SEAT. 12 by the template 'for every input the law returns true; each argument reads behind the call as it read before'; 0 by the template 'total and deterministic' (their statements: YtoglmpigdipknaaTotals.lean).
  GIVEN WITH THE SEED: the statements are not yours to turn. If you find one false, say at which input.
  Laid BY PROGRAM, IN A SANDBOX (cutbox-rows.mjs): the forced cells as the released guide's own fill.sh prints them over the translation 9870d7b77a32c2d1… (all of the seat's roots in one cut). By AI agents, Wed Nov 11 2026. No macro, syntax, notation, axiom, sorry.
-/
import Derived.Test.YtoglmpigdipknaaChecked
import GoSem.Claim
import GoSem.ClaimJoined
import GoSem.ClaimMapViews
import Derived.JoinedTies
import Derived.KernelRfl
namespace Go.Proofs.Ytoglmpigdipknaa
/- THE CELL 'sum', in the pinned program and in every row, IS THE sha256 OF THE DUMP (.gsa) THAT YtoglmpigdipknaaProg.lean LOADS. Nothing in Lean hashes anything: it is a label: what it is worth is what the hold of that sum in a sandbox is worth. -/
noncomputable def Try.pinned : Pinned := { name := "ytoglmpigdipknaa", sum := "9870d7b77a32c2d18591772f478fbfc45f5dea9e0df5203d17b2200028e98bf1", checked := Try.checked }
namespace Rows
def none {H : Type} : Left H := { results := [], args := [] }

/-- 'laws.FnExactCheckNew': WHATEVER THE INPUT: true; the input reads as it did. -/
def fnExactCheckNewSpec : ChangeSpec := { name := "fnExactCheckNew", fn := fun _ => fun
  | [d1, d2, d3] => { results := [.lit (.bool true)], args := [d1, d2, d3] }
  | _ => none }
def fnExactCheckNewRow : OpenClaim := { program := "ytoglmpigdipknaa", sum := "9870d7b77a32c2d18591772f478fbfc45f5dea9e0df5203d17b2200028e98bf1", func := "loop.example/g00365/laws.FnExactCheckNew", spec := "fnExactCheckNew", apart := false }
def FnExactCheckNewSaid : Prop := fnExactCheckNewRow.holds Try.pinned (OpenSpec.ofChange fnExactCheckNewSpec)

/-- ITS FALSE NEIGHBOUR: 'it returns false'. Refute it at one input. -/
def fnExactCheckNewWrong : ChangeSpec := { name := "fnExactCheckNew", fn := fun _ => fun
  | [d1, d2, d3] => { results := [.lit (.bool false)], args := [d1, d2, d3] }
  | _ => none }
def FnExactCheckNewWrongFalsely : Prop := fnExactCheckNewRow.holds Try.pinned (OpenSpec.ofChange fnExactCheckNewWrong)

/-- 'laws.FnExactDutyNew': WHATEVER THE INPUT: true; the input reads as it did. -/
def fnExactDutyNewSpec : ChangeSpec := { name := "fnExactDutyNew", fn := fun _ => fun
  | [d] => { results := [.lit (.bool true)], args := [d] }
  | _ => none }
def fnExactDutyNewRow : OpenClaim := { program := "ytoglmpigdipknaa", sum := "9870d7b77a32c2d18591772f478fbfc45f5dea9e0df5203d17b2200028e98bf1", func := "loop.example/g00365/laws.FnExactDutyNew", spec := "fnExactDutyNew", apart := false }
def FnExactDutyNewSaid : Prop := fnExactDutyNewRow.holds Try.pinned (OpenSpec.ofChange fnExactDutyNewSpec)

/-- ITS FALSE NEIGHBOUR: 'it returns false'. Refute it at one input. -/
def fnExactDutyNewWrong : ChangeSpec := { name := "fnExactDutyNew", fn := fun _ => fun
  | [d] => { results := [.lit (.bool false)], args := [d] }
  | _ => none }
def FnExactDutyNewWrongFalsely : Prop := fnExactDutyNewRow.holds Try.pinned (OpenSpec.ofChange fnExactDutyNewWrong)

/-- 'laws.FnExactTableOk': WHATEVER THE INPUT: true; the input reads as it did. -/
def fnExactTableOkSpec : ChangeSpec := { name := "fnExactTableOk", fn := fun _ => fun
  | [d] => { results := [.lit (.bool true)], args := [d] }
  | _ => none }
def fnExactTableOkRow : OpenClaim := { program := "ytoglmpigdipknaa", sum := "9870d7b77a32c2d18591772f478fbfc45f5dea9e0df5203d17b2200028e98bf1", func := "loop.example/g00365/laws.FnExactTableOk", spec := "fnExactTableOk", unfollowed := true, recurses := true, apart := false }
def FnExactTableOkSaid : Prop := fnExactTableOkRow.holds Try.pinned (OpenSpec.ofChange fnExactTableOkSpec)

/-- ITS FALSE NEIGHBOUR: 'it returns false'. Refute it at one input. -/
def fnExactTableOkWrong : ChangeSpec := { name := "fnExactTableOk", fn := fun _ => fun
  | [d] => { results := [.lit (.bool false)], args := [d] }
  | _ => none }
def FnExactTableOkWrongFalsely : Prop := fnExactTableOkRow.holds Try.pinned (OpenSpec.ofChange fnExactTableOkWrong)

/-- 'laws.FnExactWorst': WHATEVER THE INPUT: true; the input reads as it did. -/
def fnExactWorstSpec : ChangeSpec := { name := "fnExactWorst", fn := fun _ => fun
  | [d] => { results := [.lit (.bool true)], args := [d] }
  | _ => none }
def fnExactWorstRow : OpenClaim := { program := "ytoglmpigdipknaa", sum := "9870d7b77a32c2d18591772f478fbfc45f5dea9e0df5203d17b2200028e98bf1", func := "loop.example/g00365/laws.FnExactWorst", spec := "fnExactWorst", apart := false }
def FnExactWorstSaid : Prop := fnExactWorstRow.holds Try.pinned (OpenSpec.ofChange fnExactWorstSpec)

/-- ITS FALSE NEIGHBOUR: 'it returns false'. Refute it at one input. -/
def fnExactWorstWrong : ChangeSpec := { name := "fnExactWorst", fn := fun _ => fun
  | [d] => { results := [.lit (.bool false)], args := [d] }
  | _ => none }
def FnExactWorstWrongFalsely : Prop := fnExactWorstRow.holds Try.pinned (OpenSpec.ofChange fnExactWorstWrong)

/-- 'laws.FnExactCheckPass': WHATEVER THE INPUT: true; the input reads as it did. -/
def fnExactCheckPassSpec : ChangeSpec := { name := "fnExactCheckPass", fn := fun _ => fun
  | [d] => { results := [.lit (.bool true)], args := [d] }
  | _ => none }
def fnExactCheckPassRow : OpenClaim := { program := "ytoglmpigdipknaa", sum := "9870d7b77a32c2d18591772f478fbfc45f5dea9e0df5203d17b2200028e98bf1", func := "loop.example/g00365/laws.FnExactCheckPass", spec := "fnExactCheckPass", apart := false }
def FnExactCheckPassSaid : Prop := fnExactCheckPassRow.holds Try.pinned (OpenSpec.ofChange fnExactCheckPassSpec)

/-- ITS FALSE NEIGHBOUR: 'it returns false'. Refute it at one input. -/
def fnExactCheckPassWrong : ChangeSpec := { name := "fnExactCheckPass", fn := fun _ => fun
  | [d] => { results := [.lit (.bool false)], args := [d] }
  | _ => none }
def FnExactCheckPassWrongFalsely : Prop := fnExactCheckPassRow.holds Try.pinned (OpenSpec.ofChange fnExactCheckPassWrong)

/-- 'laws.FnExactMemberOf': WHATEVER THE INPUT: true; the input reads as it did. -/
def fnExactMemberOfSpec : ChangeSpec := { name := "fnExactMemberOf", fn := fun _ => fun
  | [d1, d2] => { results := [.lit (.bool true)], args := [d1, d2] }
  | _ => none }
def fnExactMemberOfRow : OpenClaim := { program := "ytoglmpigdipknaa", sum := "9870d7b77a32c2d18591772f478fbfc45f5dea9e0df5203d17b2200028e98bf1", func := "loop.example/g00365/laws.FnExactMemberOf", spec := "fnExactMemberOf", unfollowed := true, recurses := true, apart := false }
def FnExactMemberOfSaid : Prop := fnExactMemberOfRow.holds Try.pinned (OpenSpec.ofChange fnExactMemberOfSpec)

/-- ITS FALSE NEIGHBOUR: 'it returns false'. Refute it at one input. -/
def fnExactMemberOfWrong : ChangeSpec := { name := "fnExactMemberOf", fn := fun _ => fun
  | [d1, d2] => { results := [.lit (.bool false)], args := [d1, d2] }
  | _ => none }
def FnExactMemberOfWrongFalsely : Prop := fnExactMemberOfRow.holds Try.pinned (OpenSpec.ofChange fnExactMemberOfWrong)

/-- 'laws.FnExactCheckFail': WHATEVER THE INPUT: true; the input reads as it did. -/
def fnExactCheckFailSpec : ChangeSpec := { name := "fnExactCheckFail", fn := fun _ => fun
  | [d] => { results := [.lit (.bool true)], args := [d] }
  | _ => none }
def fnExactCheckFailRow : OpenClaim := { program := "ytoglmpigdipknaa", sum := "9870d7b77a32c2d18591772f478fbfc45f5dea9e0df5203d17b2200028e98bf1", func := "loop.example/g00365/laws.FnExactCheckFail", spec := "fnExactCheckFail", apart := false }
def FnExactCheckFailSaid : Prop := fnExactCheckFailRow.holds Try.pinned (OpenSpec.ofChange fnExactCheckFailSpec)

/-- ITS FALSE NEIGHBOUR: 'it returns false'. Refute it at one input. -/
def fnExactCheckFailWrong : ChangeSpec := { name := "fnExactCheckFail", fn := fun _ => fun
  | [d] => { results := [.lit (.bool false)], args := [d] }
  | _ => none }
def FnExactCheckFailWrongFalsely : Prop := fnExactCheckFailRow.holds Try.pinned (OpenSpec.ofChange fnExactCheckFailWrong)

/-- 'laws.FnExactAgree': WHATEVER THE INPUT: true; the input reads as it did. -/
def fnExactAgreeSpec : ChangeSpec := { name := "fnExactAgree", fn := fun _ => fun
  | [d1, d2] => { results := [.lit (.bool true)], args := [d1, d2] }
  | _ => none }
def fnExactAgreeRow : OpenClaim := { program := "ytoglmpigdipknaa", sum := "9870d7b77a32c2d18591772f478fbfc45f5dea9e0df5203d17b2200028e98bf1", func := "loop.example/g00365/laws.FnExactAgree", spec := "fnExactAgree", unfollowed := true, recurses := true, apart := false }
def FnExactAgreeSaid : Prop := fnExactAgreeRow.holds Try.pinned (OpenSpec.ofChange fnExactAgreeSpec)

/-- ITS FALSE NEIGHBOUR: 'it returns false'. Refute it at one input. -/
def fnExactAgreeWrong : ChangeSpec := { name := "fnExactAgree", fn := fun _ => fun
  | [d1, d2] => { results := [.lit (.bool false)], args := [d1, d2] }
  | _ => none }
def FnExactAgreeWrongFalsely : Prop := fnExactAgreeRow.holds Try.pinned (OpenSpec.ofChange fnExactAgreeWrong)

/-- 'laws.FnExactProbeAck': WHATEVER THE INPUT: true; the input reads as it did. -/
def fnExactProbeAckSpec : ChangeSpec := { name := "fnExactProbeAck", fn := fun _ => fun
  | [d1, d2] => { results := [.lit (.bool true)], args := [d1, d2] }
  | _ => none }
def fnExactProbeAckRow : OpenClaim := { program := "ytoglmpigdipknaa", sum := "9870d7b77a32c2d18591772f478fbfc45f5dea9e0df5203d17b2200028e98bf1", func := "loop.example/g00365/laws.FnExactProbeAck", spec := "fnExactProbeAck", apart := false }
def FnExactProbeAckSaid : Prop := fnExactProbeAckRow.holds Try.pinned (OpenSpec.ofChange fnExactProbeAckSpec)

/-- ITS FALSE NEIGHBOUR: 'it returns false'. Refute it at one input. -/
def fnExactProbeAckWrong : ChangeSpec := { name := "fnExactProbeAck", fn := fun _ => fun
  | [d1, d2] => { results := [.lit (.bool false)], args := [d1, d2] }
  | _ => none }
def FnExactProbeAckWrongFalsely : Prop := fnExactProbeAckRow.holds Try.pinned (OpenSpec.ofChange fnExactProbeAckWrong)

/-- 'laws.FnExactCheckTick': WHATEVER THE INPUT: true; the input reads as it did. -/
def fnExactCheckTickSpec : ChangeSpec := { name := "fnExactCheckTick", fn := fun _ => fun
  | [d1, d2] => { results := [.lit (.bool true)], args := [d1, d2] }
  | _ => none }
def fnExactCheckTickRow : OpenClaim := { program := "ytoglmpigdipknaa", sum := "9870d7b77a32c2d18591772f478fbfc45f5dea9e0df5203d17b2200028e98bf1", func := "loop.example/g00365/laws.FnExactCheckTick", spec := "fnExactCheckTick", apart := false }
def FnExactCheckTickSaid : Prop := fnExactCheckTickRow.holds Try.pinned (OpenSpec.ofChange fnExactCheckTickSpec)

/-- ITS FALSE NEIGHBOUR: 'it returns false'. Refute it at one input. -/
def fnExactCheckTickWrong : ChangeSpec := { name := "fnExactCheckTick", fn := fun _ => fun
  | [d1, d2] => { results := [.lit (.bool false)], args := [d1, d2] }
  | _ => none }
def FnExactCheckTickWrongFalsely : Prop := fnExactCheckTickRow.holds Try.pinned (OpenSpec.ofChange fnExactCheckTickWrong)

/-- 'laws.FnExactDutyOk': WHATEVER THE INPUT: true; the input reads as it did. -/
def fnExactDutyOkSpec : ChangeSpec := { name := "fnExactDutyOk", fn := fun _ => fun
  | [d] => { results := [.lit (.bool true)], args := [d] }
  | _ => none }
def fnExactDutyOkRow : OpenClaim := { program := "ytoglmpigdipknaa", sum := "9870d7b77a32c2d18591772f478fbfc45f5dea9e0df5203d17b2200028e98bf1", func := "loop.example/g00365/laws.FnExactDutyOk", spec := "fnExactDutyOk", unfollowed := true, recurses := true, apart := false }
def FnExactDutyOkSaid : Prop := fnExactDutyOkRow.holds Try.pinned (OpenSpec.ofChange fnExactDutyOkSpec)

/-- ITS FALSE NEIGHBOUR: 'it returns false'. Refute it at one input. -/
def fnExactDutyOkWrong : ChangeSpec := { name := "fnExactDutyOk", fn := fun _ => fun
  | [d] => { results := [.lit (.bool false)], args := [d] }
  | _ => none }
def FnExactDutyOkWrongFalsely : Prop := fnExactDutyOkRow.holds Try.pinned (OpenSpec.ofChange fnExactDutyOkWrong)

/-- 'laws.FnExactLive': WHATEVER THE INPUT: true; the input reads as it did. -/
def fnExactLiveSpec : ChangeSpec := { name := "fnExactLive", fn := fun _ => fun
  | [d] => { results := [.lit (.bool true)], args := [d] }
  | _ => none }
def fnExactLiveRow : OpenClaim := { program := "ytoglmpigdipknaa", sum := "9870d7b77a32c2d18591772f478fbfc45f5dea9e0df5203d17b2200028e98bf1", func := "loop.example/g00365/laws.FnExactLive", spec := "fnExactLive", unfollowed := true, recurses := true, apart := false }
def FnExactLiveSaid : Prop := fnExactLiveRow.holds Try.pinned (OpenSpec.ofChange fnExactLiveSpec)

/-- ITS FALSE NEIGHBOUR: 'it returns false'. Refute it at one input. -/
def fnExactLiveWrong : ChangeSpec := { name := "fnExactLive", fn := fun _ => fun
  | [d] => { results := [.lit (.bool false)], args := [d] }
  | _ => none }
def FnExactLiveWrongFalsely : Prop := fnExactLiveRow.holds Try.pinned (OpenSpec.ofChange fnExactLiveWrong)

/- THE SECOND FORM. 'bulk': how many values and letters a reading holds, each counted each time it is reached (what is shared counts as often as it is met; a slice's spare places count too). A statement '..UptoSaid' is the law's where the arguments, and the package variables that the reading takes, are together of bulk at most 1048576: NARROWER than '..Said'. Prove '..Said' where nothing that the law and all that it calls make is longer than what came in: it says more and counts as full. Else prove '..UptoSaid'. A law counts once. -/
mutual
def uptoBulk {H : Type} : DataW H → Nat
  | .lit (.string bytes) => bytes.length + 1
  | .lit _ => 1
  | .nil => 1
  | .ptr d => uptoBulk d + 1
  | .slice elems spare => uptoBulkAll elems + uptoBulkAll spare + 1
  | .agg parts => uptoBulkAll parts + 1
  | .iface _ d => uptoBulk d + 1
  | .map entries => uptoBulkEntries entries + 1
  | .held _ => 1
def uptoBulkAll {H : Type} : List (DataW H) → Nat
  | [] => 0
  | d :: r => uptoBulk d + uptoBulkAll r
def uptoBulkEntries {H : Type} : List (Lit × DataW H) → Nat
  | [] => 0
  | x :: r => uptoBulkEntry x + uptoBulkEntries r
def uptoBulkEntry {H : Type} : Lit × DataW H → Nat
  | (.string bytes, d) => bytes.length + uptoBulk d + 1
  | (_, d) => uptoBulk d + 1
 end
def uptoSmall : (H : Type) → List (DataW H) → Bool := fun _ ds => decide (uptoBulkAll ds ≤ 1048576)
def OpenSpec.upto (s : _root_.Go.ChangeSpec) : _root_.Go.OpenSpec := { _root_.Go.OpenSpec.ofChange s with cond := some uptoSmall }

/-- 'laws.FnExactCheckNew', WHERE WHAT IT READS IS OF BULK AT MOST 1048576: true; the input reads as it did. -/
def fnExactCheckNewUptoRow : OpenClaim := { program := "ytoglmpigdipknaa", sum := "9870d7b77a32c2d18591772f478fbfc45f5dea9e0df5203d17b2200028e98bf1", func := "loop.example/g00365/laws.FnExactCheckNew", spec := "fnExactCheckNew", apart := false, narrowed := true }
def FnExactCheckNewUptoSaid : Prop := fnExactCheckNewUptoRow.holds Try.pinned (OpenSpec.upto fnExactCheckNewSpec)

/-- 'laws.FnExactDutyNew', WHERE WHAT IT READS IS OF BULK AT MOST 1048576: true; the input reads as it did. -/
def fnExactDutyNewUptoRow : OpenClaim := { program := "ytoglmpigdipknaa", sum := "9870d7b77a32c2d18591772f478fbfc45f5dea9e0df5203d17b2200028e98bf1", func := "loop.example/g00365/laws.FnExactDutyNew", spec := "fnExactDutyNew", apart := false, narrowed := true }
def FnExactDutyNewUptoSaid : Prop := fnExactDutyNewUptoRow.holds Try.pinned (OpenSpec.upto fnExactDutyNewSpec)

/-- 'laws.FnExactTableOk', WHERE WHAT IT READS IS OF BULK AT MOST 1048576: true; the input reads as it did. -/
def fnExactTableOkUptoRow : OpenClaim := { program := "ytoglmpigdipknaa", sum := "9870d7b77a32c2d18591772f478fbfc45f5dea9e0df5203d17b2200028e98bf1", func := "loop.example/g00365/laws.FnExactTableOk", spec := "fnExactTableOk", unfollowed := true, recurses := true, apart := false, narrowed := true }
def FnExactTableOkUptoSaid : Prop := fnExactTableOkUptoRow.holds Try.pinned (OpenSpec.upto fnExactTableOkSpec)

/-- 'laws.FnExactWorst', WHERE WHAT IT READS IS OF BULK AT MOST 1048576: true; the input reads as it did. -/
def fnExactWorstUptoRow : OpenClaim := { program := "ytoglmpigdipknaa", sum := "9870d7b77a32c2d18591772f478fbfc45f5dea9e0df5203d17b2200028e98bf1", func := "loop.example/g00365/laws.FnExactWorst", spec := "fnExactWorst", apart := false, narrowed := true }
def FnExactWorstUptoSaid : Prop := fnExactWorstUptoRow.holds Try.pinned (OpenSpec.upto fnExactWorstSpec)

/-- 'laws.FnExactCheckPass', WHERE WHAT IT READS IS OF BULK AT MOST 1048576: true; the input reads as it did. -/
def fnExactCheckPassUptoRow : OpenClaim := { program := "ytoglmpigdipknaa", sum := "9870d7b77a32c2d18591772f478fbfc45f5dea9e0df5203d17b2200028e98bf1", func := "loop.example/g00365/laws.FnExactCheckPass", spec := "fnExactCheckPass", apart := false, narrowed := true }
def FnExactCheckPassUptoSaid : Prop := fnExactCheckPassUptoRow.holds Try.pinned (OpenSpec.upto fnExactCheckPassSpec)

/-- 'laws.FnExactMemberOf', WHERE WHAT IT READS IS OF BULK AT MOST 1048576: true; the input reads as it did. -/
def fnExactMemberOfUptoRow : OpenClaim := { program := "ytoglmpigdipknaa", sum := "9870d7b77a32c2d18591772f478fbfc45f5dea9e0df5203d17b2200028e98bf1", func := "loop.example/g00365/laws.FnExactMemberOf", spec := "fnExactMemberOf", unfollowed := true, recurses := true, apart := false, narrowed := true }
def FnExactMemberOfUptoSaid : Prop := fnExactMemberOfUptoRow.holds Try.pinned (OpenSpec.upto fnExactMemberOfSpec)

/-- 'laws.FnExactCheckFail', WHERE WHAT IT READS IS OF BULK AT MOST 1048576: true; the input reads as it did. -/
def fnExactCheckFailUptoRow : OpenClaim := { program := "ytoglmpigdipknaa", sum := "9870d7b77a32c2d18591772f478fbfc45f5dea9e0df5203d17b2200028e98bf1", func := "loop.example/g00365/laws.FnExactCheckFail", spec := "fnExactCheckFail", apart := false, narrowed := true }
def FnExactCheckFailUptoSaid : Prop := fnExactCheckFailUptoRow.holds Try.pinned (OpenSpec.upto fnExactCheckFailSpec)

/-- 'laws.FnExactAgree', WHERE WHAT IT READS IS OF BULK AT MOST 1048576: true; the input reads as it did. -/
def fnExactAgreeUptoRow : OpenClaim := { program := "ytoglmpigdipknaa", sum := "9870d7b77a32c2d18591772f478fbfc45f5dea9e0df5203d17b2200028e98bf1", func := "loop.example/g00365/laws.FnExactAgree", spec := "fnExactAgree", unfollowed := true, recurses := true, apart := false, narrowed := true }
def FnExactAgreeUptoSaid : Prop := fnExactAgreeUptoRow.holds Try.pinned (OpenSpec.upto fnExactAgreeSpec)

/-- 'laws.FnExactProbeAck', WHERE WHAT IT READS IS OF BULK AT MOST 1048576: true; the input reads as it did. -/
def fnExactProbeAckUptoRow : OpenClaim := { program := "ytoglmpigdipknaa", sum := "9870d7b77a32c2d18591772f478fbfc45f5dea9e0df5203d17b2200028e98bf1", func := "loop.example/g00365/laws.FnExactProbeAck", spec := "fnExactProbeAck", apart := false, narrowed := true }
def FnExactProbeAckUptoSaid : Prop := fnExactProbeAckUptoRow.holds Try.pinned (OpenSpec.upto fnExactProbeAckSpec)

/-- 'laws.FnExactCheckTick', WHERE WHAT IT READS IS OF BULK AT MOST 1048576: true; the input reads as it did. -/
def fnExactCheckTickUptoRow : OpenClaim := { program := "ytoglmpigdipknaa", sum := "9870d7b77a32c2d18591772f478fbfc45f5dea9e0df5203d17b2200028e98bf1", func := "loop.example/g00365/laws.FnExactCheckTick", spec := "fnExactCheckTick", apart := false, narrowed := true }
def FnExactCheckTickUptoSaid : Prop := fnExactCheckTickUptoRow.holds Try.pinned (OpenSpec.upto fnExactCheckTickSpec)

/-- 'laws.FnExactDutyOk', WHERE WHAT IT READS IS OF BULK AT MOST 1048576: true; the input reads as it did. -/
def fnExactDutyOkUptoRow : OpenClaim := { program := "ytoglmpigdipknaa", sum := "9870d7b77a32c2d18591772f478fbfc45f5dea9e0df5203d17b2200028e98bf1", func := "loop.example/g00365/laws.FnExactDutyOk", spec := "fnExactDutyOk", unfollowed := true, recurses := true, apart := false, narrowed := true }
def FnExactDutyOkUptoSaid : Prop := fnExactDutyOkUptoRow.holds Try.pinned (OpenSpec.upto fnExactDutyOkSpec)

/-- 'laws.FnExactLive', WHERE WHAT IT READS IS OF BULK AT MOST 1048576: true; the input reads as it did. -/
def fnExactLiveUptoRow : OpenClaim := { program := "ytoglmpigdipknaa", sum := "9870d7b77a32c2d18591772f478fbfc45f5dea9e0df5203d17b2200028e98bf1", func := "loop.example/g00365/laws.FnExactLive", spec := "fnExactLive", unfollowed := true, recurses := true, apart := false, narrowed := true }
def FnExactLiveUptoSaid : Prop := fnExactLiveUptoRow.holds Try.pinned (OpenSpec.upto fnExactLiveSpec)

end Rows
end Go.Proofs.Ytoglmpigdipknaa
