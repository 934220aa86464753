/-
  No cell of these rows narrows 'for every input' (looked for: loops, veiled, ifaces, maps, wideKeys, modest, calm, conditions, laid).
  DERIVED. THE GIVEN ROWS OF THIS SEAT. 12 by the template 'for every input the law returns true; each argument reads behind the call as it read before'; 0 by the template 'total and deterministic' (their statements: YthgflggeijfbgaaTotals.lean).
  GIVEN WITH THE SEED: the statements are not yours to turn. If you find one false, say at which input.
  Laid BY PROGRAM, IN A SANDBOX (cutbox-rows.mjs): the forced cells as the released guide's own fill.sh prints them over the translation f75a463e0ca65ba6… (all of the seat's roots in one cut). By AI agents, Wed Nov 11 2026. No macro, syntax, notation, axiom, sorry.
-/
import Derived.Test.YthgflggeijfbgaaChecked
import GoSem.Claim
import GoSem.ClaimJoined
import GoSem.ClaimMapViews
import Derived.JoinedTies
import Derived.KernelRfl
namespace Go.Proofs.Ythgflggeijfbgaa
/- THE CELL 'sum', in the pinned program and in every row, IS THE sha256 OF THE DUMP (.gsa) THAT YthgflggeijfbgaaProg.lean LOADS. Nothing in Lean hashes anything: it is a label: what it is worth is what the hold of that sum in a sandbox is worth. -/
noncomputable def Try.pinned : Pinned := { name := "ythgflggeijfbgaa", sum := "f75a463e0ca65ba659f2ad587983fb4f3ce58568c2f1932baf7c239783784f01", checked := Try.checked }
namespace Rows
def none {H : Type} : Left H := { results := [], args := [] }

/-- 'laws.FnExactBeats': WHATEVER THE INPUT: true; the input reads as it did. -/
def fnExactBeatsSpec : ChangeSpec := { name := "fnExactBeats", fn := fun _ => fun
  | [d1, d2] => { results := [.lit (.bool true)], args := [d1, d2] }
  | _ => none }
def fnExactBeatsRow : OpenClaim := { program := "ythgflggeijfbgaa", sum := "f75a463e0ca65ba659f2ad587983fb4f3ce58568c2f1932baf7c239783784f01", func := "loop.example/g00365/laws.FnExactBeats", spec := "fnExactBeats", apart := false }
def FnExactBeatsSaid : Prop := fnExactBeatsRow.holds Try.pinned (OpenSpec.ofChange fnExactBeatsSpec)

/-- ITS FALSE NEIGHBOUR: 'it returns false'. Refute it at one input. -/
def fnExactBeatsWrong : ChangeSpec := { name := "fnExactBeats", fn := fun _ => fun
  | [d1, d2] => { results := [.lit (.bool false)], args := [d1, d2] }
  | _ => none }
def FnExactBeatsWrongFalsely : Prop := fnExactBeatsRow.holds Try.pinned (OpenSpec.ofChange fnExactBeatsWrong)

/-- 'laws.FnExactMemberOk': WHATEVER THE INPUT: true; the input reads as it did. -/
def fnExactMemberOkSpec : ChangeSpec := { name := "fnExactMemberOk", fn := fun _ => fun
  | [d] => { results := [.lit (.bool true)], args := [d] }
  | _ => none }
def fnExactMemberOkRow : OpenClaim := { program := "ythgflggeijfbgaa", sum := "f75a463e0ca65ba659f2ad587983fb4f3ce58568c2f1932baf7c239783784f01", func := "loop.example/g00365/laws.FnExactMemberOk", spec := "fnExactMemberOk", apart := false }
def FnExactMemberOkSaid : Prop := fnExactMemberOkRow.holds Try.pinned (OpenSpec.ofChange fnExactMemberOkSpec)

/-- ITS FALSE NEIGHBOUR: 'it returns false'. Refute it at one input. -/
def fnExactMemberOkWrong : ChangeSpec := { name := "fnExactMemberOk", fn := fun _ => fun
  | [d] => { results := [.lit (.bool false)], args := [d] }
  | _ => none }
def FnExactMemberOkWrongFalsely : Prop := fnExactMemberOkRow.holds Try.pinned (OpenSpec.ofChange fnExactMemberOkWrong)

/-- 'laws.FnExactMix': WHATEVER THE INPUT: true; the input reads as it did. -/
def fnExactMixSpec : ChangeSpec := { name := "fnExactMix", fn := fun _ => fun
  | [d] => { results := [.lit (.bool true)], args := [d] }
  | _ => none }
def fnExactMixRow : OpenClaim := { program := "ythgflggeijfbgaa", sum := "f75a463e0ca65ba659f2ad587983fb4f3ce58568c2f1932baf7c239783784f01", func := "loop.example/g00365/laws.FnExactMix", spec := "fnExactMix", apart := false }
def FnExactMixSaid : Prop := fnExactMixRow.holds Try.pinned (OpenSpec.ofChange fnExactMixSpec)

/-- ITS FALSE NEIGHBOUR: 'it returns false'. Refute it at one input. -/
def fnExactMixWrong : ChangeSpec := { name := "fnExactMix", fn := fun _ => fun
  | [d] => { results := [.lit (.bool false)], args := [d] }
  | _ => none }
def FnExactMixWrongFalsely : Prop := fnExactMixRow.holds Try.pinned (OpenSpec.ofChange fnExactMixWrong)

/-- 'laws.FnExactMoveOk': WHATEVER THE INPUT: true; the input reads as it did. -/
def fnExactMoveOkSpec : ChangeSpec := { name := "fnExactMoveOk", fn := fun _ => fun
  | [d] => { results := [.lit (.bool true)], args := [d] }
  | _ => none }
def fnExactMoveOkRow : OpenClaim := { program := "ythgflggeijfbgaa", sum := "f75a463e0ca65ba659f2ad587983fb4f3ce58568c2f1932baf7c239783784f01", func := "loop.example/g00365/laws.FnExactMoveOk", spec := "fnExactMoveOk", apart := false }
def FnExactMoveOkSaid : Prop := fnExactMoveOkRow.holds Try.pinned (OpenSpec.ofChange fnExactMoveOkSpec)

/-- ITS FALSE NEIGHBOUR: 'it returns false'. Refute it at one input. -/
def fnExactMoveOkWrong : ChangeSpec := { name := "fnExactMoveOk", fn := fun _ => fun
  | [d] => { results := [.lit (.bool false)], args := [d] }
  | _ => none }
def FnExactMoveOkWrongFalsely : Prop := fnExactMoveOkRow.holds Try.pinned (OpenSpec.ofChange fnExactMoveOkWrong)

/-- 'laws.FnExactStatusText': WHATEVER THE INPUT: true; the input reads as it did. -/
def fnExactStatusTextSpec : ChangeSpec := { name := "fnExactStatusText", fn := fun _ => fun
  | [d] => { results := [.lit (.bool true)], args := [d] }
  | _ => none }
def fnExactStatusTextRow : OpenClaim := { program := "ythgflggeijfbgaa", sum := "f75a463e0ca65ba659f2ad587983fb4f3ce58568c2f1932baf7c239783784f01", func := "loop.example/g00365/laws.FnExactStatusText", spec := "fnExactStatusText", apart := false }
def FnExactStatusTextSaid : Prop := fnExactStatusTextRow.holds Try.pinned (OpenSpec.ofChange fnExactStatusTextSpec)

/-- ITS FALSE NEIGHBOUR: 'it returns false'. Refute it at one input. -/
def fnExactStatusTextWrong : ChangeSpec := { name := "fnExactStatusText", fn := fun _ => fun
  | [d] => { results := [.lit (.bool false)], args := [d] }
  | _ => none }
def FnExactStatusTextWrongFalsely : Prop := fnExactStatusTextRow.holds Try.pinned (OpenSpec.ofChange fnExactStatusTextWrong)

/-- 'laws.FnOrder': WHATEVER THE INPUT: true; the input reads as it did. -/
def fnOrderSpec : ChangeSpec := { name := "fnOrder", fn := fun _ => fun
  | [d] => { results := [.lit (.bool true)], args := [d] }
  | _ => none }
def fnOrderRow : OpenClaim := { program := "ythgflggeijfbgaa", sum := "f75a463e0ca65ba659f2ad587983fb4f3ce58568c2f1932baf7c239783784f01", func := "loop.example/g00365/laws.FnOrder", spec := "fnOrder", apart := false }
def FnOrderSaid : Prop := fnOrderRow.holds Try.pinned (OpenSpec.ofChange fnOrderSpec)

/-- ITS FALSE NEIGHBOUR: 'it returns false'. Refute it at one input. -/
def fnOrderWrong : ChangeSpec := { name := "fnOrder", fn := fun _ => fun
  | [d] => { results := [.lit (.bool false)], args := [d] }
  | _ => none }
def FnOrderWrongFalsely : Prop := fnOrderRow.holds Try.pinned (OpenSpec.ofChange fnOrderWrong)

/-- 'laws.FnShuffles': WHATEVER THE INPUT: true; the input reads as it did. -/
def fnShufflesSpec : ChangeSpec := { name := "fnShuffles", fn := fun _ => fun
  | [d] => { results := [.lit (.bool true)], args := [d] }
  | _ => none }
def fnShufflesRow : OpenClaim := { program := "ythgflggeijfbgaa", sum := "f75a463e0ca65ba659f2ad587983fb4f3ce58568c2f1932baf7c239783784f01", func := "loop.example/g00365/laws.FnShuffles", spec := "fnShuffles", apart := false }
def FnShufflesSaid : Prop := fnShufflesRow.holds Try.pinned (OpenSpec.ofChange fnShufflesSpec)

/-- ITS FALSE NEIGHBOUR: 'it returns false'. Refute it at one input. -/
def fnShufflesWrong : ChangeSpec := { name := "fnShuffles", fn := fun _ => fun
  | [d] => { results := [.lit (.bool false)], args := [d] }
  | _ => none }
def FnShufflesWrongFalsely : Prop := fnShufflesRow.holds Try.pinned (OpenSpec.ofChange fnShufflesWrong)

/-- 'laws.FnExactProberNew': WHATEVER THE INPUT: true; the input reads as it did. -/
def fnExactProberNewSpec : ChangeSpec := { name := "fnExactProberNew", fn := fun _ => fun
  | [d] => { results := [.lit (.bool true)], args := [d] }
  | _ => none }
def fnExactProberNewRow : OpenClaim := { program := "ythgflggeijfbgaa", sum := "f75a463e0ca65ba659f2ad587983fb4f3ce58568c2f1932baf7c239783784f01", func := "loop.example/g00365/laws.FnExactProberNew", spec := "fnExactProberNew", apart := false }
def FnExactProberNewSaid : Prop := fnExactProberNewRow.holds Try.pinned (OpenSpec.ofChange fnExactProberNewSpec)

/-- ITS FALSE NEIGHBOUR: 'it returns false'. Refute it at one input. -/
def fnExactProberNewWrong : ChangeSpec := { name := "fnExactProberNew", fn := fun _ => fun
  | [d] => { results := [.lit (.bool false)], args := [d] }
  | _ => none }
def FnExactProberNewWrongFalsely : Prop := fnExactProberNewRow.holds Try.pinned (OpenSpec.ofChange fnExactProberNewWrong)

/-- 'laws.FnExactTableNew': WHATEVER THE INPUT: true; the input reads as it did. -/
def fnExactTableNewSpec : ChangeSpec := { name := "fnExactTableNew", fn := fun _ => fun
  | [d] => { results := [.lit (.bool true)], args := [d] }
  | _ => none }
def fnExactTableNewRow : OpenClaim := { program := "ythgflggeijfbgaa", sum := "f75a463e0ca65ba659f2ad587983fb4f3ce58568c2f1932baf7c239783784f01", func := "loop.example/g00365/laws.FnExactTableNew", spec := "fnExactTableNew", apart := false }
def FnExactTableNewSaid : Prop := fnExactTableNewRow.holds Try.pinned (OpenSpec.ofChange fnExactTableNewSpec)

/-- ITS FALSE NEIGHBOUR: 'it returns false'. Refute it at one input. -/
def fnExactTableNewWrong : ChangeSpec := { name := "fnExactTableNew", fn := fun _ => fun
  | [d] => { results := [.lit (.bool false)], args := [d] }
  | _ => none }
def FnExactTableNewWrongFalsely : Prop := fnExactTableNewRow.holds Try.pinned (OpenSpec.ofChange fnExactTableNewWrong)

/-- 'laws.FnExactShuffle': WHATEVER THE INPUT: true; the input reads as it did. -/
def fnExactShuffleSpec : ChangeSpec := { name := "fnExactShuffle", fn := fun _ => fun
  | [d1, d2] => { results := [.lit (.bool true)], args := [d1, d2] }
  | _ => none }
def fnExactShuffleRow : OpenClaim := { program := "ythgflggeijfbgaa", sum := "f75a463e0ca65ba659f2ad587983fb4f3ce58568c2f1932baf7c239783784f01", func := "loop.example/g00365/laws.FnExactShuffle", spec := "fnExactShuffle", apart := false }
def FnExactShuffleSaid : Prop := fnExactShuffleRow.holds Try.pinned (OpenSpec.ofChange fnExactShuffleSpec)

/-- ITS FALSE NEIGHBOUR: 'it returns false'. Refute it at one input. -/
def fnExactShuffleWrong : ChangeSpec := { name := "fnExactShuffle", fn := fun _ => fun
  | [d1, d2] => { results := [.lit (.bool false)], args := [d1, d2] }
  | _ => none }
def FnExactShuffleWrongFalsely : Prop := fnExactShuffleRow.holds Try.pinned (OpenSpec.ofChange fnExactShuffleWrong)

/-- 'laws.FnExactCheckOk': WHATEVER THE INPUT: true; the input reads as it did. -/
def fnExactCheckOkSpec : ChangeSpec := { name := "fnExactCheckOk", fn := fun _ => fun
  | [d] => { results := [.lit (.bool true)], args := [d] }
  | _ => none }
def fnExactCheckOkRow : OpenClaim := { program := "ythgflggeijfbgaa", sum := "f75a463e0ca65ba659f2ad587983fb4f3ce58568c2f1932baf7c239783784f01", func := "loop.example/g00365/laws.FnExactCheckOk", spec := "fnExactCheckOk", apart := false }
def FnExactCheckOkSaid : Prop := fnExactCheckOkRow.holds Try.pinned (OpenSpec.ofChange fnExactCheckOkSpec)

/-- ITS FALSE NEIGHBOUR: 'it returns false'. Refute it at one input. -/
def fnExactCheckOkWrong : ChangeSpec := { name := "fnExactCheckOk", fn := fun _ => fun
  | [d] => { results := [.lit (.bool false)], args := [d] }
  | _ => none }
def FnExactCheckOkWrongFalsely : Prop := fnExactCheckOkRow.holds Try.pinned (OpenSpec.ofChange fnExactCheckOkWrong)

/-- 'laws.FnExactProberOk': WHATEVER THE INPUT: true; the input reads as it did. -/
def fnExactProberOkSpec : ChangeSpec := { name := "fnExactProberOk", fn := fun _ => fun
  | [d] => { results := [.lit (.bool true)], args := [d] }
  | _ => none }
def fnExactProberOkRow : OpenClaim := { program := "ythgflggeijfbgaa", sum := "f75a463e0ca65ba659f2ad587983fb4f3ce58568c2f1932baf7c239783784f01", func := "loop.example/g00365/laws.FnExactProberOk", spec := "fnExactProberOk", apart := false }
def FnExactProberOkSaid : Prop := fnExactProberOkRow.holds Try.pinned (OpenSpec.ofChange fnExactProberOkSpec)

/-- ITS FALSE NEIGHBOUR: 'it returns false'. Refute it at one input. -/
def fnExactProberOkWrong : ChangeSpec := { name := "fnExactProberOk", fn := fun _ => fun
  | [d] => { results := [.lit (.bool false)], args := [d] }
  | _ => none }
def FnExactProberOkWrongFalsely : Prop := fnExactProberOkRow.holds Try.pinned (OpenSpec.ofChange fnExactProberOkWrong)

/- THE SECOND FORM. 'bulk': how many values and letters a reading holds, each counted each time it is reached (what is shared counts as often as it is met; a slice's spare places count too). A statement '..UptoSaid' is the law's where the arguments, and the package variables that the reading takes, are together of bulk at most 1048576: NARROWER than '..Said'. Prove '..Said' where nothing that the law and all that it calls make is longer than what came in: it says more and counts as full. Else prove '..UptoSaid'. A law counts once. -/
mutual
def uptoBulk {H : Type} : DataW H → Nat
  | .lit (.string bytes) => bytes.length + 1
  | .lit _ => 1
  | .nil => 1
  | .ptr d => uptoBulk d + 1
  | .slice elems spare => uptoBulkAll elems + uptoBulkAll spare + 1
  | .agg parts => uptoBulkAll parts + 1
  | .iface _ d => uptoBulk d + 1
  | .map entries => uptoBulkEntries entries + 1
  | .held _ => 1
def uptoBulkAll {H : Type} : List (DataW H) → Nat
  | [] => 0
  | d :: r => uptoBulk d + uptoBulkAll r
def uptoBulkEntries {H : Type} : List (Lit × DataW H) → Nat
  | [] => 0
  | x :: r => uptoBulkEntry x + uptoBulkEntries r
def uptoBulkEntry {H : Type} : Lit × DataW H → Nat
  | (.string bytes, d) => bytes.length + uptoBulk d + 1
  | (_, d) => uptoBulk d + 1
 end
def uptoSmall : (H : Type) → List (DataW H) → Bool := fun _ ds => decide (uptoBulkAll ds ≤ 1048576)
def OpenSpec.upto (s : _root_.Go.ChangeSpec) : _root_.Go.OpenSpec := { _root_.Go.OpenSpec.ofChange s with cond := some uptoSmall }

/-- 'laws.FnExactBeats', WHERE WHAT IT READS IS OF BULK AT MOST 1048576: true; the input reads as it did. -/
def fnExactBeatsUptoRow : OpenClaim := { program := "ythgflggeijfbgaa", sum := "f75a463e0ca65ba659f2ad587983fb4f3ce58568c2f1932baf7c239783784f01", func := "loop.example/g00365/laws.FnExactBeats", spec := "fnExactBeats", apart := false, narrowed := true }
def FnExactBeatsUptoSaid : Prop := fnExactBeatsUptoRow.holds Try.pinned (OpenSpec.upto fnExactBeatsSpec)

/-- 'laws.FnExactMemberOk', WHERE WHAT IT READS IS OF BULK AT MOST 1048576: true; the input reads as it did. -/
def fnExactMemberOkUptoRow : OpenClaim := { program := "ythgflggeijfbgaa", sum := "f75a463e0ca65ba659f2ad587983fb4f3ce58568c2f1932baf7c239783784f01", func := "loop.example/g00365/laws.FnExactMemberOk", spec := "fnExactMemberOk", apart := false, narrowed := true }
def FnExactMemberOkUptoSaid : Prop := fnExactMemberOkUptoRow.holds Try.pinned (OpenSpec.upto fnExactMemberOkSpec)

/-- 'laws.FnExactMix', WHERE WHAT IT READS IS OF BULK AT MOST 1048576: true; the input reads as it did. -/
def fnExactMixUptoRow : OpenClaim := { program := "ythgflggeijfbgaa", sum := "f75a463e0ca65ba659f2ad587983fb4f3ce58568c2f1932baf7c239783784f01", func := "loop.example/g00365/laws.FnExactMix", spec := "fnExactMix", apart := false, narrowed := true }
def FnExactMixUptoSaid : Prop := fnExactMixUptoRow.holds Try.pinned (OpenSpec.upto fnExactMixSpec)

/-- 'laws.FnExactMoveOk', WHERE WHAT IT READS IS OF BULK AT MOST 1048576: true; the input reads as it did. -/
def fnExactMoveOkUptoRow : OpenClaim := { program := "ythgflggeijfbgaa", sum := "f75a463e0ca65ba659f2ad587983fb4f3ce58568c2f1932baf7c239783784f01", func := "loop.example/g00365/laws.FnExactMoveOk", spec := "fnExactMoveOk", apart := false, narrowed := true }
def FnExactMoveOkUptoSaid : Prop := fnExactMoveOkUptoRow.holds Try.pinned (OpenSpec.upto fnExactMoveOkSpec)

/-- 'laws.FnExactStatusText', WHERE WHAT IT READS IS OF BULK AT MOST 1048576: true; the input reads as it did. -/
def fnExactStatusTextUptoRow : OpenClaim := { program := "ythgflggeijfbgaa", sum := "f75a463e0ca65ba659f2ad587983fb4f3ce58568c2f1932baf7c239783784f01", func := "loop.example/g00365/laws.FnExactStatusText", spec := "fnExactStatusText", apart := false, narrowed := true }
def FnExactStatusTextUptoSaid : Prop := fnExactStatusTextUptoRow.holds Try.pinned (OpenSpec.upto fnExactStatusTextSpec)

/-- 'laws.FnOrder', WHERE WHAT IT READS IS OF BULK AT MOST 1048576: true; the input reads as it did. -/
def fnOrderUptoRow : OpenClaim := { program := "ythgflggeijfbgaa", sum := "f75a463e0ca65ba659f2ad587983fb4f3ce58568c2f1932baf7c239783784f01", func := "loop.example/g00365/laws.FnOrder", spec := "fnOrder", apart := false, narrowed := true }
def FnOrderUptoSaid : Prop := fnOrderUptoRow.holds Try.pinned (OpenSpec.upto fnOrderSpec)

/-- 'laws.FnShuffles', WHERE WHAT IT READS IS OF BULK AT MOST 1048576: true; the input reads as it did. -/
def fnShufflesUptoRow : OpenClaim := { program := "ythgflggeijfbgaa", sum := "f75a463e0ca65ba659f2ad587983fb4f3ce58568c2f1932baf7c239783784f01", func := "loop.example/g00365/laws.FnShuffles", spec := "fnShuffles", apart := false, narrowed := true }
def FnShufflesUptoSaid : Prop := fnShufflesUptoRow.holds Try.pinned (OpenSpec.upto fnShufflesSpec)

/-- 'laws.FnExactProberNew', WHERE WHAT IT READS IS OF BULK AT MOST 1048576: true; the input reads as it did. -/
def fnExactProberNewUptoRow : OpenClaim := { program := "ythgflggeijfbgaa", sum := "f75a463e0ca65ba659f2ad587983fb4f3ce58568c2f1932baf7c239783784f01", func := "loop.example/g00365/laws.FnExactProberNew", spec := "fnExactProberNew", apart := false, narrowed := true }
def FnExactProberNewUptoSaid : Prop := fnExactProberNewUptoRow.holds Try.pinned (OpenSpec.upto fnExactProberNewSpec)

/-- 'laws.FnExactTableNew', WHERE WHAT IT READS IS OF BULK AT MOST 1048576: true; the input reads as it did. -/
def fnExactTableNewUptoRow : OpenClaim := { program := "ythgflggeijfbgaa", sum := "f75a463e0ca65ba659f2ad587983fb4f3ce58568c2f1932baf7c239783784f01", func := "loop.example/g00365/laws.FnExactTableNew", spec := "fnExactTableNew", apart := false, narrowed := true }
def FnExactTableNewUptoSaid : Prop := fnExactTableNewUptoRow.holds Try.pinned (OpenSpec.upto fnExactTableNewSpec)

/-- 'laws.FnExactShuffle', WHERE WHAT IT READS IS OF BULK AT MOST 1048576: true; the input reads as it did. -/
def fnExactShuffleUptoRow : OpenClaim := { program := "ythgflggeijfbgaa", sum := "f75a463e0ca65ba659f2ad587983fb4f3ce58568c2f1932baf7c239783784f01", func := "loop.example/g00365/laws.FnExactShuffle", spec := "fnExactShuffle", apart := false, narrowed := true }
def FnExactShuffleUptoSaid : Prop := fnExactShuffleUptoRow.holds Try.pinned (OpenSpec.upto fnExactShuffleSpec)

/-- 'laws.FnExactCheckOk', WHERE WHAT IT READS IS OF BULK AT MOST 1048576: true; the input reads as it did. -/
def fnExactCheckOkUptoRow : OpenClaim := { program := "ythgflggeijfbgaa", sum := "f75a463e0ca65ba659f2ad587983fb4f3ce58568c2f1932baf7c239783784f01", func := "loop.example/g00365/laws.FnExactCheckOk", spec := "fnExactCheckOk", apart := false, narrowed := true }
def FnExactCheckOkUptoSaid : Prop := fnExactCheckOkUptoRow.holds Try.pinned (OpenSpec.upto fnExactCheckOkSpec)

/-- 'laws.FnExactProberOk', WHERE WHAT IT READS IS OF BULK AT MOST 1048576: true; the input reads as it did. -/
def fnExactProberOkUptoRow : OpenClaim := { program := "ythgflggeijfbgaa", sum := "f75a463e0ca65ba659f2ad587983fb4f3ce58568c2f1932baf7c239783784f01", func := "loop.example/g00365/laws.FnExactProberOk", spec := "fnExactProberOk", apart := false, narrowed := true }
def FnExactProberOkUptoSaid : Prop := fnExactProberOkUptoRow.holds Try.pinned (OpenSpec.upto fnExactProberOkSpec)

end Rows
end Go.Proofs.Ythgflggeijfbgaa
