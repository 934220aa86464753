/- The functions that FnExactWant reaches, as texts of the language of values, and that these are what the code says. Definitions and lemmas, no statement. -/
import Derived.Test.YtecleaangfcloaaProg
import Derived.Test.YtecleaangfcloaaVmNat
import Derived.KernelRfl
import Derived.WalkKit
import Derived.Tactics
namespace Go.Proofs.Ytecleaangfcloaa.VtFnExactWant
open Go.Vm Go.RowKit
set_option maxRecDepth 100000
set_option linter.unusedVariables false
set_option linter.unusedSimpArgs false
/- loop.example/g00365/laws.heldByteS -/
def sg100 : Sig := ⟨[.val, .val], [((.int .i64), .sh)], true, none⟩
def hi100 : Hints := [((0, 2), ⟨[(4, .sh), (1, .sh), (5, .sh)], [], []⟩)]
def ir100 : IR := (.label true
 (.letE ⟨.len, [(.var 0)]⟩
 (.letE ⟨(.bin .lss 3), [(.var 4), (.var 5)]⟩
 (.ite (.var 6)
 (.letE ⟨(.idx 1), [(.var 0), (.var 4)]⟩
 (.letE ⟨.a, [(.fld (.var 7) 0)]⟩
 (.letE ⟨(.conv .u8), [(.var 3)]⟩
 (.letE ⟨(.bin .neq 5), [(.var 8), (.var 9)]⟩
 (.ite (.var 10)
 (.ret [(.int .i64 (-1))])
 (.letE ⟨(.bin .add 3), [(.var 3), (.int .i64 (1))]⟩
 (.letE ⟨(.bin .add 3), [(.var 4), (.int .i64 (1))]⟩
 (.jump 0 [(.var 2), (.var 11), (.var 12)]))))))))
 (.ret [(.var 3)]))))
 (.jump 0 [(.int .i64 (0)), (.var 1), (.int .i64 (0))]))
/- loop.example/g00365/laws.heldPairS -/
def sg41 : Sig := ⟨[.val, .val], [((.int .i64), .sh)], true, none⟩
def hi41 : Hints := [((0, 2), ⟨[(1, .sh), (4, .sh), (5, .sh)], [], []⟩)]
def ir41 : IR := (.label true
 (.letE ⟨.len, [(.var 0)]⟩
 (.letE ⟨(.bin .lss 3), [(.var 4), (.var 5)]⟩
 (.ite (.var 6)
 (.letE ⟨(.idx 2), [(.var 0), (.var 4)]⟩
 (.letE ⟨.a, [(.fld (.var 7) 0)]⟩
 (.call 100 [(.var 8), (.var 2)] 1
 (.letE ⟨(.bin .lss 3), [(.var 9), (.int .i64 (0))]⟩
 (.ite (.var 10)
 (.ret [(.int .i64 (-1))])
 (.letE ⟨(.idx 2), [(.var 0), (.var 4)]⟩
 (.letE ⟨.a, [(.fld (.var 11) 1)]⟩
 (.call 100 [(.var 12), (.var 9)] 1
 (.letE ⟨(.bin .lss 3), [(.var 13), (.int .i64 (0))]⟩
 (.ite (.var 14)
 (.ret [(.int .i64 (-1))])
 (.letE ⟨(.bin .add 3), [(.var 4), (.int .i64 (1))]⟩
 (.jump 0 [(.var 13), (.var 3), (.var 15)]))))))))))))
 (.ret [(.var 2)]))))
 (.jump 0 [(.var 1), (.int .i64 (0)), (.int .i64 (0))]))
/- loop.example/g00365/laws.markByteS -/
def sg98 : Sig := ⟨[.val], [((.int .i64), .sh)], true, some (0, .row (.sl (.int .u8)))⟩
def hi98 : Hints := [((0, 2), ⟨[(1, .sh), (5, .sh), (0, (.own .sh))], [], []⟩)]
def ir98 : IR := (.label true
 (.letE ⟨.len, [(.var 4)]⟩
 (.letE ⟨(.bin .lss 3), [(.var 3), (.var 5)]⟩
 (.ite (.var 6)
 (.letE ⟨(.conv .u8), [(.var 2)]⟩
 (.letE ⟨(.idx 1), [(.var 4), (.var 3)]⟩
 (.letE ⟨(.setE 1), [(.var 4), (.var 3), (.var 7)]⟩
 (.letE ⟨(.bin .add 3), [(.var 2), (.int .i64 (1))]⟩
 (.letE ⟨(.bin .add 3), [(.var 3), (.int .i64 (1))]⟩
 (.jump 0 [(.var 10), (.var 11), (.var 9)]))))))
 (.ret [(.var 2), (.var 4)]))))
 (.jump 0 [(.var 0), (.int .i64 (0)), (.var 1)]))
/- loop.example/g00365/laws.eqByteS -/
def sg96 : Sig := ⟨[.val, .val], [(.bool, .sh)], true, none⟩
def hi96 : Hints := [((0, 4), ⟨[(4, .sh), (5, .sh)], [], []⟩)]
def ir96 : IR := (.letE ⟨.len, [(.var 0)]⟩
 (.letE ⟨.len, [(.var 1)]⟩
 (.letE ⟨(.bin .neq 3), [(.var 2), (.var 3)]⟩
 (.ite (.var 4)
 (.ret [(.bool false)])
 (.label true
 (.letE ⟨.len, [(.var 0)]⟩
 (.letE ⟨(.bin .lss 3), [(.var 6), (.var 7)]⟩
 (.ite (.var 8)
 (.letE ⟨(.idx 1), [(.var 0), (.var 6)]⟩
 (.letE ⟨.a, [(.fld (.var 9) 0)]⟩
 (.letE ⟨(.idx 1), [(.var 1), (.var 6)]⟩
 (.letE ⟨.a, [(.fld (.var 11) 0)]⟩
 (.letE ⟨(.bin .neq 5), [(.var 10), (.var 12)]⟩
 (.ite (.var 13)
 (.ret [(.bool false)])
 (.letE ⟨(.bin .add 3), [(.var 6), (.int .i64 (1))]⟩
 (.jump 0 [(.var 5), (.var 14)]))))))))
 (.ret [(.bool true)]))))
 (.jump 0 [(.bool false), (.int .i64 (0))]))))))
/- loop.example/g00365/laws.eqPair -/
def sg95 : Sig := ⟨[.val, .val], [(.bool, .sh)], true, none⟩
def hi95 : Hints := []
def ir95 : IR := (.letE ⟨(.all 2), [(.var 0)]⟩
 (.letE ⟨(.all 2), [(.var 1)]⟩
 (.call 96 [(.fld (.var 2) 0), (.fld (.var 3) 0)] 1
 (.letE ⟨(.un .not), [(.var 4)]⟩
 (.ite (.var 5)
 (.ret [(.bool false)])
 (.call 96 [(.fld (.var 2) 1), (.fld (.var 3) 1)] 1
 (.letE ⟨(.un .not), [(.var 6)]⟩
 (.ite (.var 7)
 (.ret [(.bool false)])
 (.ret [(.bool true)])))))))))
/- loop.example/g00365/laws.eqPairS -/
def sg37 : Sig := ⟨[.val, .val], [(.bool, .sh)], true, none⟩
def hi37 : Hints := [((0, 4), ⟨[(4, .sh), (5, .sh)], [], []⟩)]
def ir37 : IR := (.letE ⟨.len, [(.var 0)]⟩
 (.letE ⟨.len, [(.var 1)]⟩
 (.letE ⟨(.bin .neq 3), [(.var 2), (.var 3)]⟩
 (.ite (.var 4)
 (.ret [(.bool false)])
 (.label true
 (.letE ⟨.len, [(.var 0)]⟩
 (.letE ⟨(.bin .lss 3), [(.var 6), (.var 7)]⟩
 (.ite (.var 8)
 (.letE ⟨(.idx 2), [(.var 0), (.var 6)]⟩
 (.letE ⟨(.cells 0 2), [(.var 9)]⟩
 (.letE ⟨(.idx 2), [(.var 1), (.var 6)]⟩
 (.letE ⟨(.cells 0 2), [(.var 11)]⟩
 (.call 95 [(.var 10), (.var 12)] 1
 (.letE ⟨(.un .not), [(.var 13)]⟩
 (.ite (.var 14)
 (.ret [(.bool false)])
 (.letE ⟨(.bin .add 3), [(.var 6), (.int .i64 (1))]⟩
 (.jump 0 [(.var 5), (.var 15)])))))))))
 (.ret [(.bool true)]))))
 (.jump 0 [(.bool false), (.int .i64 (0))]))))))
/- (loop.example/g00365/impl.Check).late -/
def sg163 : Sig := ⟨[.val], [(.bool, .sh)], true, none⟩
def hi163 : Hints := []
def ir163 : IR := (.letE ⟨(.all 6), [(.var 0)]⟩
 (.letE ⟨(.bin .gtr 3), [(.fld (.var 1) 1), (.int .i64 (0))]⟩
 (.ite (.var 2)
 (.letE ⟨(.bin .geq 3), [(.fld (.var 1) 4), (.fld (.var 1) 1)]⟩
 (.ret [(.var 3)]))
 (.ret [(.bool false)]))))
/- slices.Concat[[]byte,byte] -/
def sg168 : Sig := ⟨[.val], [((.sl (.int .u8)), (.own .sh))], true, none⟩
def hi168 : Hints := [((0, 11), ⟨[(6, (.own .sh)), (27, .sh), (2, (.own .sh))], [], []⟩), ((0, 3), ⟨[(3, .sh), (11, .sh), (2, (.own .sh))], [], []⟩)]
def ir168 : IR := (.letE ⟨.len, [(.var 0)]⟩
 (.label true
 (.letE ⟨(.bin .lss 3), [(.var 3), (.var 1)]⟩
 (.ite (.var 5)
 (.letE ⟨(.idx 1), [(.var 0), (.var 3)]⟩
 (.letE ⟨.a, [(.fld (.var 6) 0)]⟩
 (.letE ⟨.len, [(.var 7)]⟩
 (.letE ⟨(.bin .add 3), [(.var 2), (.var 8)]⟩
 (.letE ⟨(.bin .lss 3), [(.var 9), (.int .i64 (0))]⟩
 (.ite (.var 10)
 .fail
 (.letE ⟨(.bin .add 3), [(.var 3), (.int .i64 (1))]⟩
 (.jump 0 [(.var 9), (.var 11), (.var 4)]))))))))
 (.call 196 [(.var 2)] 1
 (.letE ⟨.len, [(.var 0)]⟩
 (.label true
 (.letE ⟨(.bin .lss 3), [(.var 9), (.var 7)]⟩
 (.ite (.var 11)
 (.letE ⟨(.idx 1), [(.var 0), (.var 9)]⟩
 (.letE ⟨.a, [(.fld (.var 12) 0)]⟩
 (.letE ⟨(.app (.int .u8)), [(.var 8), (.var 13)]⟩
 (.letE ⟨(.bin .add 3), [(.var 9), (.int .i64 (1))]⟩
 (.jump 1 [(.var 14), (.var 15), (.var 10)])))))
 (.ret [(.var 8)])))
 (.jump 1 [(.var 6), (.int .i64 (0)), (.var 4)]))))))
 (.jump 0 [(.int .i64 (0)), (.int .i64 (0)), (.nil (.int .u8))])))
/- (loop.example/g00365/impl.Local).ahead -/
def sg191 : Sig := ⟨[.val], [((.sl (.int .u8)), (.own .sh))], false, none⟩
def hi191 : Hints := []
def ir191 : IR := (.letE ⟨(.all 2), [(.var 0)]⟩
 (.letE ⟨(.lst (.int .u8)), [(.int .u8 (115)), (.int .u8 (118)), (.int .u8 (99)), (.int .u8 (47))]⟩
 (.letE ⟨(.idx 1), [(.var 2), (.int .i64 (0))]⟩
 (.letE ⟨(.lst (.int .u8)), [(.int .u8 (47))]⟩
 (.letE ⟨(.idx 1), [(.var 4), (.int .i64 (0))]⟩
 (.letE ⟨(.lst (.sl (.int .u8))), [(.var 2), (.fld (.var 1) 0), (.var 4)]⟩
 (.call 168 [(.var 6)] 1
 (.ret [(.var 7)]))))))))
/- (loop.example/g00365/impl.Local).catalogKey -/
def sg153 : Sig := ⟨[.val, .val], [((.sl (.int .u8)), (.own .sh))], false, none⟩
def hi153 : Hints := []
def ir153 : IR := (.letE ⟨(.all 2), [(.var 0)]⟩
 (.letE ⟨.mk, [(.fld (.var 2) 0), (.fld (.var 2) 1)]⟩
 (.call 191 [(.var 3)] 1
 (.letE ⟨(.lst (.sl (.int .u8))), [(.var 4), (.var 1)]⟩
 (.call 168 [(.var 5)] 1
 (.ret [(.var 6)]))))))
/- slices.Index[[]byte,byte] -/
def sg208 : Sig := ⟨[.val, .val], [((.int .i64), .sh)], true, none⟩
def hi208 : Hints := [((0, 2), ⟨[(4, .sh), (8, .sh)], [], []⟩)]
def ir208 : IR := (.letE ⟨.len, [(.var 0)]⟩
 (.label true
 (.letE ⟨(.bin .lss 3), [(.var 4), (.var 2)]⟩
 (.ite (.var 5)
 (.letE ⟨(.idx 1), [(.var 0), (.var 4)]⟩
 (.letE ⟨.a, [(.fld (.var 6) 0)]⟩
 (.letE ⟨(.bin .eql 5), [(.var 1), (.var 7)]⟩
 (.ite (.var 8)
 (.ret [(.var 4)])
 (.letE ⟨(.bin .add 3), [(.var 4), (.int .i64 (1))]⟩
 (.jump 0 [(.var 3), (.var 9)]))))))
 (.ret [(.int .i64 (-1))])))
 (.jump 0 [(.int .i64 (0)), (.int .i64 (0))])))
/- slices.Contains[[]byte,byte] -/
def sg190 : Sig := ⟨[.val, .val], [(.bool, .sh)], true, none⟩
def hi190 : Hints := []
def ir190 : IR := (.call 208 [(.var 0), (.var 1)] 1
 (.letE ⟨(.bin .geq 3), [(.var 2), (.int .i64 (0))]⟩
 (.ret [(.var 3)])))
/- loop.example/g00365/impl.within -/
def sg60 : Sig := ⟨[.val, .val, .val], [(.bool, .sh)], true, none⟩
def hi60 : Hints := []
def ir60 : IR := (.letE ⟨(.bin .leq 3), [(.var 1), (.var 0)]⟩
 (.ite (.var 3)
 (.letE ⟨(.bin .leq 3), [(.var 0), (.var 2)]⟩
 (.ret [(.var 4)]))
 (.ret [(.bool false)])))
/- loop.example/g00365/impl.KeyOk -/
def sg152 : Sig := ⟨[.val], [(.bool, .sh)], true, none⟩
def hi152 : Hints := [((0, 2), ⟨[(2, .sh), (7, .sh)], [], []⟩)]
def ir152 : IR := (.letE ⟨.len, [(.var 0)]⟩
 (.label true
 (.letE ⟨(.bin .lss 3), [(.var 3), (.var 1)]⟩
 (.ite (.var 4)
 (.letE ⟨(.idx 1), [(.var 0), (.var 3)]⟩
 (.letE ⟨.a, [(.fld (.var 5) 0)]⟩
 (.letE ⟨(.bin .lss 5), [(.var 6), (.int .u8 (97))]⟩
 (.ite (.var 7)
 (.letE ⟨(.bin .neq 5), [(.var 6), (.int .u8 (47))]⟩
 (.ite (.var 8)
 (.ret [(.bool false)])
 (.letE ⟨(.bin .add 3), [(.var 3), (.int .i64 (1))]⟩
 (.jump 0 [(.var 2), (.var 9)]))))
 (.letE ⟨(.bin .gtr 5), [(.var 6), (.int .u8 (122))]⟩
 (.ite (.var 8)
 (.letE ⟨(.bin .neq 5), [(.var 6), (.int .u8 (47))]⟩
 (.ite (.var 9)
 (.ret [(.bool false)])
 (.letE ⟨(.bin .add 3), [(.var 3), (.int .i64 (1))]⟩
 (.jump 0 [(.var 2), (.var 10)]))))
 (.letE ⟨(.bin .add 3), [(.var 3), (.int .i64 (1))]⟩
 (.jump 0 [(.var 2), (.var 9)]))))))))
 (.letE ⟨.len, [(.var 0)]⟩
 (.call 60 [(.var 5), (.int .i64 (1)), (.int .i64 (20))] 1
 (.ret [(.var 6)])))))
 (.jump 0 [(.bool false), (.int .i64 (0))])))
/- loop.example/g00365/impl.isPlain -/
def sg151 : Sig := ⟨[.val], [(.bool, .sh)], true, none⟩
def hi151 : Hints := []
def ir151 : IR := (.call 152 [(.var 0)] 1
 (.ite (.var 1)
 (.call 190 [(.var 0), (.int .u8 (47))] 1
 (.letE ⟨(.un .not), [(.var 2)]⟩
 (.ret [(.var 3)])))
 (.ret [(.bool false)])))
/- loop.example/g00365/spec.StatusText -/
def sg148 : Sig := ⟨[.val], [((.sl (.int .u8)), (.own .sh))], true, none⟩
def hi148 : Hints := []
def ir148 : IR := (.letE ⟨(.bin .lss 3), [(.var 0), (.int .i64 (0))]⟩
 (.ite (.var 1)
 (.ret [(.nil (.int .u8))])
 (.letE ⟨(.bin .gtr 3), [(.var 0), (.int .i64 (2))]⟩
 (.ite (.var 2)
 (.ret [(.nil (.int .u8))])
 (.letE ⟨(.lst .str), [(.str [112, 97, 115, 115, 105, 110, 103]), (.str [119, 97, 114, 110, 105, 110, 103]), (.str [99, 114, 105, 116, 105, 99, 97, 108])]⟩
 (.letE ⟨(.idx 1), [(.var 3), (.var 0)]⟩
 (.letE ⟨(.idx 1), [(.var 3), (.var 0)]⟩
 (.letE ⟨.a, [(.fld (.var 5) 0)]⟩
 (.letE ⟨.bytes, [(.var 6)]⟩
 (.ret [(.var 7)]))))))))))
/- loop.example/g00365/spec.l14key -/
def sg146 : Sig := ⟨[.val, .val], [((.sl (.int .u8)), (.own .sh))], true, none⟩
def hi146 : Hints := []
def ir146 : IR := (.letE ⟨(.lst (.int .u8)), [(.int .u8 (115)), (.int .u8 (118)), (.int .u8 (99)), (.int .u8 (47))]⟩
 (.letE ⟨(.idx 1), [(.var 2), (.int .i64 (0))]⟩
 (.letE ⟨(.app (.int .u8)), [(.var 2), (.var 0)]⟩
 (.letE ⟨(.lst (.int .u8)), [(.int .u8 (47))]⟩
 (.letE ⟨(.app (.int .u8)), [(.var 4), (.var 5)]⟩
 (.letE ⟨(.app (.int .u8)), [(.var 6), (.var 1)]⟩
 (.ret [(.var 7)])))))))
/- loop.example/g00365/spec.l2key -/
def sg136 : Sig := ⟨[.val], [(.bool, .sh)], true, none⟩
def hi136 : Hints := [((0, 4), ⟨[(2, .sh), (3, .sh)], [], []⟩)]
def ir136 : IR := (.letE ⟨.len, [(.var 0)]⟩
 (.letE ⟨(.bin .lss 3), [(.var 1), (.int .i64 (1))]⟩
 (.ite (.var 2)
 (.ret [(.bool false)])
 (.letE ⟨.len, [(.var 0)]⟩
 (.letE ⟨(.bin .gtr 3), [(.var 3), (.int .i64 (20))]⟩
 (.ite (.var 4)
 (.ret [(.bool false)])
 (.label true
 (.letE ⟨.len, [(.var 0)]⟩
 (.letE ⟨(.bin .lss 3), [(.var 6), (.var 7)]⟩
 (.ite (.var 8)
 (.letE ⟨(.idx 1), [(.var 0), (.var 6)]⟩
 (.letE ⟨.a, [(.fld (.var 9) 0)]⟩
 (.letE ⟨(.bin .lss 5), [(.var 10), (.int .u8 (97))]⟩
 (.ite (.var 11)
 (.letE ⟨(.idx 1), [(.var 0), (.var 6)]⟩
 (.letE ⟨.a, [(.fld (.var 12) 0)]⟩
 (.letE ⟨(.bin .neq 5), [(.var 13), (.int .u8 (47))]⟩
 (.ite (.var 14)
 (.ret [(.bool false)])
 (.letE ⟨(.bin .add 3), [(.var 6), (.int .i64 (1))]⟩
 (.jump 0 [(.var 5), (.var 15)]))))))
 (.letE ⟨(.idx 1), [(.var 0), (.var 6)]⟩
 (.letE ⟨.a, [(.fld (.var 12) 0)]⟩
 (.letE ⟨(.bin .gtr 5), [(.var 13), (.int .u8 (122))]⟩
 (.ite (.var 14)
 (.letE ⟨(.idx 1), [(.var 0), (.var 6)]⟩
 (.letE ⟨.a, [(.fld (.var 15) 0)]⟩
 (.letE ⟨(.bin .neq 5), [(.var 16), (.int .u8 (47))]⟩
 (.ite (.var 17)
 (.ret [(.bool false)])
 (.letE ⟨(.bin .add 3), [(.var 6), (.int .i64 (1))]⟩
 (.jump 0 [(.var 5), (.var 18)]))))))
 (.letE ⟨(.bin .add 3), [(.var 6), (.int .i64 (1))]⟩
 (.jump 0 [(.var 5), (.var 15)]))))))))))
 (.ret [(.bool true)]))))
 (.jump 0 [(.bool false), (.int .i64 (0))]))))))))
/- loop.example/g00365/spec.l14part -/
def sg145 : Sig := ⟨[.val], [(.bool, .sh)], true, none⟩
def hi145 : Hints := [((0, 2), ⟨[(2, .sh), (3, .sh)], [], []⟩)]
def ir145 : IR := (.label true
 (.letE ⟨.len, [(.var 0)]⟩
 (.letE ⟨(.bin .lss 3), [(.var 2), (.var 3)]⟩
 (.ite (.var 4)
 (.letE ⟨(.idx 1), [(.var 0), (.var 2)]⟩
 (.letE ⟨.a, [(.fld (.var 5) 0)]⟩
 (.letE ⟨(.bin .eql 5), [(.var 6), (.int .u8 (47))]⟩
 (.ite (.var 7)
 (.ret [(.bool false)])
 (.letE ⟨(.bin .add 3), [(.var 2), (.int .i64 (1))]⟩
 (.jump 0 [(.var 1), (.var 8)]))))))
 (.call 136 [(.var 0)] 1
 (.ret [(.var 5)])))))
 (.jump 0 [(.bool false), (.int .i64 (0))]))
/- loop.example/g00365/laws.toByteS -/
def sg91 : Sig := ⟨[.val], [((.sl (.int .u8)), (.own .sh))], true, none⟩
def hi91 : Hints := [((0, 3), ⟨[(4, .sh), (2, (.own .sh)), (3, (.own .sh))], [], []⟩)]
def ir91 : IR := (.letE ⟨.len, [(.var 0)]⟩
 (.letE ⟨(.rep (.int .u8)), [(.var 1), (.int .u8 (0))]⟩
 (.label true
 (.letE ⟨.len, [(.var 0)]⟩
 (.letE ⟨(.bin .lss 3), [(.var 3), (.var 6)]⟩
 (.ite (.var 7)
 (.letE ⟨(.idx 1), [(.var 0), (.var 3)]⟩
 (.letE ⟨.a, [(.fld (.var 8) 0)]⟩
 (.letE ⟨(.idx 1), [(.var 5), (.var 3)]⟩
 (.letE ⟨(.setE 1), [(.var 5), (.var 3), (.var 9)]⟩
 (.letE ⟨(.bin .add 3), [(.var 3), (.int .i64 (1))]⟩
 (.jump 0 [(.var 12), (.var 4), (.var 11)]))))))
 (.ret [(.var 5)]))))
 (.jump 0 [(.int .i64 (0)), (.nil (.int .u8)), (.var 2)]))))
/- loop.example/g00365/laws.szByteS -/
def sg87 : Sig := ⟨[.val, .val], [((.int .i64), .sh)], true, none⟩
def hi87 : Hints := []
def ir87 : IR := (.letE ⟨.len, [(.var 0)]⟩
 (.letE ⟨(.bin .sub 3), [(.var 1), (.var 2)]⟩
 (.letE ⟨(.bin .lss 3), [(.var 3), (.int .i64 (0))]⟩
 (.ite (.var 4)
 (.ret [(.int .i64 (-1))])
 (.ret [(.var 3)])))))
/- loop.example/g00365/laws.markPairS -/
def sg40 : Sig := ⟨[.val], [((.int .i64), .sh)], true, some (0, .row (.sl (.pair (.sl (.int .u8)) (.pair (.sl (.int .u8)) .unit))))⟩
def hi40 : Hints := [((0, 2), ⟨[(1, .sh), (5, .sh), (0, (.own (.pair (.own .sh) (.pair (.own .sh) .sh))))], [], []⟩)]
def ir40 : IR := (.label true
 (.letE ⟨.len, [(.var 4)]⟩
 (.letE ⟨(.bin .lss 3), [(.var 3), (.var 5)]⟩
 (.ite (.var 6)
 (.letE ⟨(.idx 2), [(.var 4), (.var 3)]⟩
 (.letE ⟨(.idx 2), [(.var 4), (.var 3)]⟩
 (.letE ⟨.a, [(.fld (.var 8) 0)]⟩
 (.letE ⟨(.idx 2), [(.var 4), (.var 3)]⟩
 (.call 98 [(.var 2), (.fld (.var 10) 0)] 2
 (.letE ⟨(.set 2 0 1), [(.var 4), (.var 3), (.var 12)]⟩
 (.letE ⟨(.idx 2), [(.var 13), (.var 3)]⟩
 (.letE ⟨(.idx 2), [(.var 13), (.var 3)]⟩
 (.letE ⟨.a, [(.fld (.var 15) 1)]⟩
 (.letE ⟨(.idx 2), [(.var 13), (.var 3)]⟩
 (.call 98 [(.var 11), (.fld (.var 17) 1)] 2
 (.letE ⟨(.set 2 1 1), [(.var 13), (.var 3), (.var 19)]⟩
 (.letE ⟨(.bin .add 3), [(.var 3), (.int .i64 (1))]⟩
 (.jump 0 [(.var 18), (.var 21), (.var 20)]))))))))))))))
 (.ret [(.var 2), (.var 4)]))))
 (.jump 0 [(.var 0), (.int .i64 (0)), (.var 1)]))
/- loop.example/g00365/laws.markCheckS -/
def sg159 : Sig := ⟨[.val], [((.int .i64), .sh)], true, some (0, .row (.sl (.pair (.sl (.int .u8)) (.pair (.int .i64) (.pair (.int .i64) (.pair (.int .i64) (.pair (.int .i64) (.pair (.int .i64) .unit))))))))⟩
def hi159 : Hints := [((0, 2), ⟨[(1, .sh), (5, .sh), (0, (.own (.pair (.own .sh) .sh)))], [], []⟩)]
def ir159 : IR := (.label true
 (.letE ⟨.len, [(.var 4)]⟩
 (.letE ⟨(.bin .lss 3), [(.var 3), (.var 5)]⟩
 (.ite (.var 6)
 (.letE ⟨(.idx 6), [(.var 4), (.var 3)]⟩
 (.letE ⟨(.idx 6), [(.var 4), (.var 3)]⟩
 (.letE ⟨.a, [(.fld (.var 8) 0)]⟩
 (.letE ⟨(.idx 6), [(.var 4), (.var 3)]⟩
 (.call 98 [(.var 2), (.fld (.var 10) 0)] 2
 (.letE ⟨(.set 6 0 1), [(.var 4), (.var 3), (.var 12)]⟩
 (.letE ⟨(.idx 6), [(.var 13), (.var 3)]⟩
 (.letE ⟨(.set 6 1 1), [(.var 13), (.var 3), (.var 11)]⟩
 (.letE ⟨(.bin .add 3), [(.var 11), (.int .i64 (1))]⟩
 (.letE ⟨(.idx 6), [(.var 15), (.var 3)]⟩
 (.letE ⟨(.set 6 2 1), [(.var 15), (.var 3), (.var 16)]⟩
 (.letE ⟨(.bin .add 3), [(.var 16), (.int .i64 (1))]⟩
 (.letE ⟨(.idx 6), [(.var 18), (.var 3)]⟩
 (.letE ⟨(.set 6 3 1), [(.var 18), (.var 3), (.var 19)]⟩
 (.letE ⟨(.bin .add 3), [(.var 19), (.int .i64 (1))]⟩
 (.letE ⟨(.idx 6), [(.var 21), (.var 3)]⟩
 (.letE ⟨(.set 6 4 1), [(.var 21), (.var 3), (.var 22)]⟩
 (.letE ⟨(.bin .add 3), [(.var 22), (.int .i64 (1))]⟩
 (.letE ⟨(.idx 6), [(.var 24), (.var 3)]⟩
 (.letE ⟨(.set 6 5 1), [(.var 24), (.var 3), (.var 25)]⟩
 (.letE ⟨(.bin .add 3), [(.var 25), (.int .i64 (1))]⟩
 (.letE ⟨(.bin .add 3), [(.var 3), (.int .i64 (1))]⟩
 (.jump 0 [(.var 28), (.var 29), (.var 27)])))))))))))))))))))))))
 (.ret [(.var 2), (.var 4)]))))
 (.jump 0 [(.var 0), (.int .i64 (0)), (.var 1)]))
/- loop.example/g00365/laws.markServiceS -/
def sg99 : Sig := ⟨[.val], [((.int .i64), .sh)], true, some (0, .row (.sl (.pair (.sl (.int .u8)) (.pair (.sl (.pair (.sl (.int .u8)) (.pair (.int .i64) (.pair (.int .i64) (.pair (.int .i64) (.pair (.int .i64) (.pair (.int .i64) .unit))))))) .unit))))⟩
def hi99 : Hints := [((0, 2), ⟨[(1, .sh), (5, .sh), (0, (.own (.pair (.own .sh) (.pair (.own (.pair (.own .sh) .sh)) .sh))))], [], []⟩)]
def ir99 : IR := (.label true
 (.letE ⟨.len, [(.var 4)]⟩
 (.letE ⟨(.bin .lss 3), [(.var 3), (.var 5)]⟩
 (.ite (.var 6)
 (.letE ⟨(.idx 2), [(.var 4), (.var 3)]⟩
 (.letE ⟨(.idx 2), [(.var 4), (.var 3)]⟩
 (.letE ⟨.a, [(.fld (.var 8) 0)]⟩
 (.letE ⟨(.idx 2), [(.var 4), (.var 3)]⟩
 (.call 98 [(.var 2), (.fld (.var 10) 0)] 2
 (.letE ⟨(.set 2 0 1), [(.var 4), (.var 3), (.var 12)]⟩
 (.letE ⟨(.idx 2), [(.var 13), (.var 3)]⟩
 (.letE ⟨(.idx 2), [(.var 13), (.var 3)]⟩
 (.letE ⟨.a, [(.fld (.var 15) 1)]⟩
 (.letE ⟨(.idx 2), [(.var 13), (.var 3)]⟩
 (.call 159 [(.var 11), (.fld (.var 17) 1)] 2
 (.letE ⟨(.set 2 1 1), [(.var 13), (.var 3), (.var 19)]⟩
 (.letE ⟨(.bin .add 3), [(.var 3), (.int .i64 (1))]⟩
 (.jump 0 [(.var 18), (.var 21), (.var 20)]))))))))))))))
 (.ret [(.var 2), (.var 4)]))))
 (.jump 0 [(.var 0), (.int .i64 (0)), (.var 1)]))
/- loop.example/g00365/laws.markLocal -/
def sg39 : Sig := ⟨[.val], [((.int .i64), .sh)], true, some (0, .row (.pair (.sl (.int .u8)) (.pair (.sl (.pair (.sl (.int .u8)) (.pair (.sl (.pair (.sl (.int .u8)) (.pair (.int .i64) (.pair (.int .i64) (.pair (.int .i64) (.pair (.int .i64) (.pair (.int .i64) .unit))))))) .unit))) .unit)))⟩
def hi39 : Hints := []
def ir39 : IR := (.letE ⟨(.all 2), [(.var 1)]⟩
 (.call 98 [(.var 0), (.fld (.var 2) 0)] 2
 (.call 99 [(.var 3), (.fld (.var 2) 1)] 2
 (.letE ⟨.mk, [(.var 4), (.var 6)]⟩
 (.ret [(.var 5), (.var 7)])))))
/- loop.example/g00365/laws.eqCheck -/
def sg209 : Sig := ⟨[.val, .val], [(.bool, .sh)], true, none⟩
def hi209 : Hints := []
def ir209 : IR := (.letE ⟨(.all 6), [(.var 0)]⟩
 (.letE ⟨(.all 6), [(.var 1)]⟩
 (.call 96 [(.fld (.var 2) 0), (.fld (.var 3) 0)] 1
 (.letE ⟨(.un .not), [(.var 4)]⟩
 (.ite (.var 5)
 (.ret [(.bool false)])
 (.letE ⟨(.bin .neq 3), [(.fld (.var 2) 1), (.fld (.var 3) 1)]⟩
 (.ite (.var 6)
 (.ret [(.bool false)])
 (.letE ⟨(.bin .neq 3), [(.fld (.var 2) 2), (.fld (.var 3) 2)]⟩
 (.ite (.var 7)
 (.ret [(.bool false)])
 (.letE ⟨(.bin .neq 3), [(.fld (.var 2) 3), (.fld (.var 3) 3)]⟩
 (.ite (.var 8)
 (.ret [(.bool false)])
 (.letE ⟨(.bin .neq 3), [(.fld (.var 2) 4), (.fld (.var 3) 4)]⟩
 (.ite (.var 9)
 (.ret [(.bool false)])
 (.letE ⟨(.bin .neq 3), [(.fld (.var 2) 5), (.fld (.var 3) 5)]⟩
 (.ite (.var 10)
 (.ret [(.bool false)])
 (.ret [(.bool true)]))))))))))))))))
/- loop.example/g00365/laws.eqCheckS -/
def sg193 : Sig := ⟨[.val, .val], [(.bool, .sh)], true, none⟩
def hi193 : Hints := [((0, 4), ⟨[(4, .sh), (5, .sh)], [], []⟩)]
def ir193 : IR := (.letE ⟨.len, [(.var 0)]⟩
 (.letE ⟨.len, [(.var 1)]⟩
 (.letE ⟨(.bin .neq 3), [(.var 2), (.var 3)]⟩
 (.ite (.var 4)
 (.ret [(.bool false)])
 (.label true
 (.letE ⟨.len, [(.var 0)]⟩
 (.letE ⟨(.bin .lss 3), [(.var 6), (.var 7)]⟩
 (.ite (.var 8)
 (.letE ⟨(.idx 6), [(.var 0), (.var 6)]⟩
 (.letE ⟨(.cells 0 6), [(.var 9)]⟩
 (.letE ⟨(.idx 6), [(.var 1), (.var 6)]⟩
 (.letE ⟨(.cells 0 6), [(.var 11)]⟩
 (.call 209 [(.var 10), (.var 12)] 1
 (.letE ⟨(.un .not), [(.var 13)]⟩
 (.ite (.var 14)
 (.ret [(.bool false)])
 (.letE ⟨(.bin .add 3), [(.var 6), (.int .i64 (1))]⟩
 (.jump 0 [(.var 5), (.var 15)])))))))))
 (.ret [(.bool true)]))))
 (.jump 0 [(.bool false), (.int .i64 (0))]))))))
/- loop.example/g00365/laws.eqService -/
def sg158 : Sig := ⟨[.val, .val], [(.bool, .sh)], true, none⟩
def hi158 : Hints := []
def ir158 : IR := (.letE ⟨(.all 2), [(.var 0)]⟩
 (.letE ⟨(.all 2), [(.var 1)]⟩
 (.call 96 [(.fld (.var 2) 0), (.fld (.var 3) 0)] 1
 (.letE ⟨(.un .not), [(.var 4)]⟩
 (.ite (.var 5)
 (.ret [(.bool false)])
 (.call 193 [(.fld (.var 2) 1), (.fld (.var 3) 1)] 1
 (.letE ⟨(.un .not), [(.var 6)]⟩
 (.ite (.var 7)
 (.ret [(.bool false)])
 (.ret [(.bool true)])))))))))
/- loop.example/g00365/laws.eqServiceS -/
def sg97 : Sig := ⟨[.val, .val], [(.bool, .sh)], true, none⟩
def hi97 : Hints := [((0, 4), ⟨[(4, .sh), (5, .sh)], [], []⟩)]
def ir97 : IR := (.letE ⟨.len, [(.var 0)]⟩
 (.letE ⟨.len, [(.var 1)]⟩
 (.letE ⟨(.bin .neq 3), [(.var 2), (.var 3)]⟩
 (.ite (.var 4)
 (.ret [(.bool false)])
 (.label true
 (.letE ⟨.len, [(.var 0)]⟩
 (.letE ⟨(.bin .lss 3), [(.var 6), (.var 7)]⟩
 (.ite (.var 8)
 (.letE ⟨(.idx 2), [(.var 0), (.var 6)]⟩
 (.letE ⟨(.cells 0 2), [(.var 9)]⟩
 (.letE ⟨(.idx 2), [(.var 1), (.var 6)]⟩
 (.letE ⟨(.cells 0 2), [(.var 11)]⟩
 (.call 158 [(.var 10), (.var 12)] 1
 (.letE ⟨(.un .not), [(.var 13)]⟩
 (.ite (.var 14)
 (.ret [(.bool false)])
 (.letE ⟨(.bin .add 3), [(.var 6), (.int .i64 (1))]⟩
 (.jump 0 [(.var 5), (.var 15)])))))))))
 (.ret [(.bool true)]))))
 (.jump 0 [(.bool false), (.int .i64 (0))]))))))
/- loop.example/g00365/laws.eqLocal -/
def sg38 : Sig := ⟨[.val, .val], [(.bool, .sh)], true, none⟩
def hi38 : Hints := []
def ir38 : IR := (.letE ⟨(.all 2), [(.var 0)]⟩
 (.letE ⟨(.all 2), [(.var 1)]⟩
 (.call 96 [(.fld (.var 2) 0), (.fld (.var 3) 0)] 1
 (.letE ⟨(.un .not), [(.var 4)]⟩
 (.ite (.var 5)
 (.ret [(.bool false)])
 (.call 97 [(.fld (.var 2) 1), (.fld (.var 3) 1)] 1
 (.letE ⟨(.un .not), [(.var 6)]⟩
 (.ite (.var 7)
 (.ret [(.bool false)])
 (.ret [(.bool true)])))))))))
/- loop.example/g00365/impl.StatusText -/
def sg156 : Sig := ⟨[.val], [((.sl (.int .u8)), (.own .sh))], true, none⟩
def hi156 : Hints := []
def ir156 : IR := (.call 60 [(.var 0), (.int .i64 (0)), (.int .i64 (2))] 1
 (.letE ⟨(.un .not), [(.var 1)]⟩
 (.ite (.var 2)
 (.ret [(.nil (.int .u8))])
 (.letE ⟨(.lst .str), [(.str [112, 97, 115, 115, 105, 110, 103]), (.str [119, 97, 114, 110, 105, 110, 103]), (.str [99, 114, 105, 116, 105, 99, 97, 108])]⟩
 (.letE ⟨(.idx 1), [(.var 3), (.var 0)]⟩
 (.letE ⟨(.idx 1), [(.var 3), (.var 0)]⟩
 (.letE ⟨.a, [(.fld (.var 5) 0)]⟩
 (.letE ⟨.bytes, [(.var 6)]⟩
 (.ret [(.var 7)])))))))))
/- loop.example/g00365/impl.CheckOk -/
def sg155 : Sig := ⟨[.val], [(.bool, .sh)], true, none⟩
def hi155 : Hints := []
def ir155 : IR := (.letE ⟨(.all 6), [(.var 0)]⟩
 (.call 152 [(.fld (.var 1) 0)] 1
 (.ite (.var 2)
 (.call 60 [(.fld (.var 1) 1), (.int .i64 (0)), (.int .i64 (1000))] 1
 (.ite (.var 3)
 (.call 60 [(.fld (.var 1) 4), (.int .i64 (0)), (.int .i64 (1000))] 1
 (.ite (.var 4)
 (.call 60 [(.fld (.var 1) 2), (.int .i64 (1)), (.int .i64 (5))] 1
 (.ite (.var 5)
 (.call 60 [(.fld (.var 1) 3), (.int .i64 (0)), (.int .i64 (2))] 1
 (.ite (.var 6)
 (.call 60 [(.fld (.var 1) 5), (.int .i64 (0)), (.fld (.var 1) 2)] 1
 (.ite (.var 7)
 (.letE ⟨.mk, [(.fld (.var 1) 0), (.fld (.var 1) 1), (.fld (.var 1) 2), (.fld (.var 1) 3), (.fld (.var 1) 4), (.fld (.var 1) 5)]⟩
 (.call 163 [(.var 8)] 1
 (.letE ⟨(.un .not), [(.var 9)]⟩
 (.ite (.var 10)
 (.letE ⟨(.bin .neq 3), [(.fld (.var 1) 3), (.int .i64 (0))]⟩
 (.ite (.var 11)
 (.ret [(.bool true)])
 (.letE ⟨(.bin .eql 3), [(.fld (.var 1) 5), (.int .i64 (0))]⟩
 (.ret [(.var 12)]))))
 (.letE ⟨(.bin .eql 3), [(.fld (.var 1) 3), (.int .i64 (2))]⟩
 (.ite (.var 11)
 (.letE ⟨(.bin .neq 3), [(.fld (.var 1) 3), (.int .i64 (0))]⟩
 (.ite (.var 12)
 (.ret [(.bool true)])
 (.letE ⟨(.bin .eql 3), [(.fld (.var 1) 5), (.int .i64 (0))]⟩
 (.ret [(.var 13)]))))
 (.ret [(.bool false)])))))))
 (.ret [(.bool false)])))
 (.ret [(.bool false)])))
 (.ret [(.bool false)])))
 (.ret [(.bool false)])))
 (.ret [(.bool false)])))
 (.ret [(.bool false)]))))
/- loop.example/g00365/impl.LocalOk -/
def sg93 : Sig := ⟨[.val], [(.bool, .sh)], true, none⟩
def hi93 : Hints := [((1, 12), ⟨[(87, .sh)], [], [68, 69, 70, 71, 72, 73, 74, 75, 76, 77, 78, 79, 80, 81, 82, 83, 84, 85, 86]⟩), ((0, 9), ⟨[(2, .sh), (63, .sh)], [], []⟩), ((1, 7), ⟨[(59, .sh)], [], [25, 26, 27, 28, 29, 30, 31, 32, 33, 34, 35, 36, 37, 38, 39, 40, 41, 42, 43, 44, 45, 46, 47, 48, 49, 50, 51, 52, 53, 54, 55, 56, 57, 58]⟩), ((0, 4), ⟨[(2, .sh), (20, .sh)], [], []⟩), ((1, 2), ⟨[(16, .sh)], [], [7, 8, 9, 10, 11, 12, 13, 14, 15]⟩)]
def ir93 : IR := (.letE ⟨(.all 2), [(.var 0)]⟩
 (.label false
 (.ite (.var 2)
 (.ret [(.bool false)])
 (.letE ⟨.len, [(.fld (.var 1) 1)]⟩
 (.label true
 (.letE ⟨(.bin .lss 3), [(.var 5), (.var 3)]⟩
 (.ite (.var 6)
 (.letE ⟨(.idx 2), [(.fld (.var 1) 1), (.var 5)]⟩
 (.letE ⟨(.cells 0 2), [(.var 7)]⟩
 (.letE ⟨(.all 2), [(.var 8)]⟩
 (.label false
 (.ite (.var 10)
 (.ret [(.bool false)])
 (.letE ⟨.len, [(.fld (.var 9) 1)]⟩
 (.label true
 (.letE ⟨(.bin .lss 3), [(.var 13), (.var 11)]⟩
 (.ite (.var 14)
 (.letE ⟨(.idx 6), [(.fld (.var 9) 1), (.var 13)]⟩
 (.letE ⟨(.cells 0 6), [(.var 15)]⟩
 (.letE ⟨(.all 6), [(.var 16)]⟩
 (.label false
 (.ite (.var 18)
 (.ret [(.bool false)])
 (.letE ⟨(.bin .add 3), [(.var 13), (.int .i64 (1))]⟩
 (.jump 3 [(.var 12), (.var 19)])))
 (.letE ⟨.mk, [(.fld (.var 17) 0), (.fld (.var 17) 1), (.fld (.var 17) 2), (.fld (.var 17) 3), (.fld (.var 17) 4), (.fld (.var 17) 5)]⟩
 (.call 155 [(.var 18)] 1
 (.letE ⟨(.un .not), [(.var 19)]⟩
 (.ite (.var 20)
 (.jump 4 [(.bool true)])
 (.letE ⟨(.bin .gtr 3), [(.var 13), (.int .i64 (0))]⟩
 (.ite (.var 21)
 (.letE ⟨(.bin .sub 3), [(.var 13), (.int .i64 (1))]⟩
 (.letE ⟨(.idx 6), [(.fld (.var 9) 1), (.var 22)]⟩
 (.letE ⟨.a, [(.fld (.var 23) 0)]⟩
 (.call 154 [(.var 24), (.fld (.var 17) 0)] 1
 (.letE ⟨(.bin .geq 3), [(.var 25), (.int .i64 (0))]⟩
 (.jump 4 [(.var 26)]))))))
 (.jump 4 [(.bool false)])))))))))))
 (.letE ⟨(.bin .add 3), [(.var 5), (.int .i64 (1))]⟩
 (.jump 1 [(.var 12), (.var 15)]))))
 (.jump 3 [(.var 4), (.int .i64 (0))]))))
 (.call 151 [(.fld (.var 9) 0)] 1
 (.letE ⟨(.un .not), [(.var 10)]⟩
 (.ite (.var 11)
 (.jump 2 [(.bool true)])
 (.letE ⟨.mk, [(.fld (.var 1) 0), (.fld (.var 1) 1)]⟩
 (.call 153 [(.var 12), (.fld (.var 9) 0)] 1
 (.call 152 [(.var 13)] 1
 (.letE ⟨(.un .not), [(.var 14)]⟩
 (.ite (.var 15)
 (.jump 2 [(.bool true)])
 (.letE ⟨.len, [(.fld (.var 9) 1)]⟩
 (.letE ⟨(.bin .gtr 3), [(.var 16), (.int .i64 (4))]⟩
 (.ite (.var 17)
 (.jump 2 [(.bool true)])
 (.letE ⟨(.bin .gtr 3), [(.var 5), (.int .i64 (0))]⟩
 (.ite (.var 18)
 (.letE ⟨(.bin .sub 3), [(.var 5), (.int .i64 (1))]⟩
 (.letE ⟨(.idx 2), [(.fld (.var 1) 1), (.var 19)]⟩
 (.letE ⟨.a, [(.fld (.var 20) 0)]⟩
 (.call 154 [(.var 21), (.fld (.var 9) 0)] 1
 (.letE ⟨(.bin .geq 3), [(.var 22), (.int .i64 (0))]⟩
 (.jump 2 [(.var 23)]))))))
 (.jump 2 [(.bool false)]))))))))))))))))))
 (.ret [(.bool true)])))
 (.jump 1 [(.bool false), (.int .i64 (0))]))))
 (.call 151 [(.fld (.var 1) 0)] 1
 (.letE ⟨(.un .not), [(.var 2)]⟩
 (.ite (.var 3)
 (.jump 0 [(.bool true)])
 (.letE ⟨.len, [(.fld (.var 1) 1)]⟩
 (.letE ⟨(.bin .gtr 3), [(.var 4), (.int .i64 (6))]⟩
 (.jump 0 [(.var 5)]))))))))
/- loop.example/g00365/spec.CheckOk -/
def sg147 : Sig := ⟨[.val], [(.bool, .sh)], true, none⟩
def hi147 : Hints := []
def ir147 : IR := (.letE ⟨(.all 6), [(.var 0)]⟩
 (.call 136 [(.fld (.var 1) 0)] 1
 (.letE ⟨(.un .not), [(.var 2)]⟩
 (.ite (.var 3)
 (.ret [(.bool false)])
 (.letE ⟨(.bin .lss 3), [(.fld (.var 1) 1), (.int .i64 (0))]⟩
 (.ite (.var 4)
 (.ret [(.bool false)])
 (.letE ⟨(.bin .gtr 3), [(.fld (.var 1) 1), (.int .i64 (1000))]⟩
 (.ite (.var 5)
 (.ret [(.bool false)])
 (.letE ⟨(.bin .lss 3), [(.fld (.var 1) 2), (.int .i64 (1))]⟩
 (.ite (.var 6)
 (.ret [(.bool false)])
 (.letE ⟨(.bin .gtr 3), [(.fld (.var 1) 2), (.int .i64 (5))]⟩
 (.ite (.var 7)
 (.ret [(.bool false)])
 (.letE ⟨(.bin .lss 3), [(.fld (.var 1) 3), (.int .i64 (0))]⟩
 (.ite (.var 8)
 (.ret [(.bool false)])
 (.letE ⟨(.bin .gtr 3), [(.fld (.var 1) 3), (.int .i64 (2))]⟩
 (.ite (.var 9)
 (.ret [(.bool false)])
 (.letE ⟨(.bin .lss 3), [(.fld (.var 1) 4), (.int .i64 (0))]⟩
 (.ite (.var 10)
 (.ret [(.bool false)])
 (.letE ⟨(.bin .gtr 3), [(.fld (.var 1) 4), (.int .i64 (1000))]⟩
 (.ite (.var 11)
 (.ret [(.bool false)])
 (.letE ⟨(.bin .lss 3), [(.fld (.var 1) 5), (.int .i64 (0))]⟩
 (.ite (.var 12)
 (.ret [(.bool false)])
 (.letE ⟨(.bin .gtr 3), [(.fld (.var 1) 5), (.fld (.var 1) 2)]⟩
 (.ite (.var 13)
 (.ret [(.bool false)])
 (.letE ⟨(.bin .gtr 3), [(.fld (.var 1) 1), (.int .i64 (0))]⟩
 (.ite (.var 14)
 (.letE ⟨(.bin .geq 3), [(.fld (.var 1) 4), (.fld (.var 1) 1)]⟩
 (.ite (.var 15)
 (.letE ⟨(.bin .neq 3), [(.fld (.var 1) 3), (.int .i64 (2))]⟩
 (.ite (.var 16)
 (.ret [(.bool false)])
 (.letE ⟨(.bin .neq 3), [(.fld (.var 1) 3), (.int .i64 (0))]⟩
 (.ite (.var 17)
 (.ret [(.bool true)])
 (.letE ⟨(.bin .eql 3), [(.fld (.var 1) 5), (.int .i64 (0))]⟩
 (.ret [(.var 18)]))))))
 (.letE ⟨(.bin .neq 3), [(.fld (.var 1) 3), (.int .i64 (0))]⟩
 (.ite (.var 16)
 (.ret [(.bool true)])
 (.letE ⟨(.bin .eql 3), [(.fld (.var 1) 5), (.int .i64 (0))]⟩
 (.ret [(.var 17)]))))))
 (.letE ⟨(.bin .neq 3), [(.fld (.var 1) 3), (.int .i64 (0))]⟩
 (.ite (.var 15)
 (.ret [(.bool true)])
 (.letE ⟨(.bin .eql 3), [(.fld (.var 1) 5), (.int .i64 (0))]⟩
 (.ret [(.var 16)]))))))))))))))))))))))))))))))
/- loop.example/g00365/spec.LocalOk -/
def sg89 : Sig := ⟨[.val], [(.bool, .sh)], true, none⟩
def hi89 : Hints := [((1, 13), ⟨[(100, .sh)], [], [72, 73, 74, 75, 76, 77, 78, 79, 80, 81, 82, 83, 84, 85, 86, 87, 88, 89, 90, 91, 92, 93, 94, 95, 96, 97, 98, 99]⟩), ((0, 10), ⟨[(2, .sh), (5, .sh)], [], []⟩), ((1, 8), ⟨[(64, .sh)], [], [28, 29, 30, 31, 32, 33, 34, 35, 36, 37, 38, 39, 40, 41, 42, 43, 44, 45, 46, 47, 48, 49, 50, 51, 52, 53, 54, 55, 56, 57, 58, 59, 60, 61, 62, 63]⟩), ((0, 4), ⟨[(2, .sh), (3, .sh)], [], []⟩), ((1, 2), ⟨[(15, .sh)], [], [6, 7, 8, 9, 10, 11, 12, 13, 14]⟩)]
def ir89 : IR := (.letE ⟨(.all 2), [(.var 0)]⟩
 (.label false
 (.ite (.var 2)
 (.ret [(.bool false)])
 (.label true
 (.letE ⟨.len, [(.fld (.var 1) 1)]⟩
 (.letE ⟨(.bin .lss 3), [(.var 4), (.var 5)]⟩
 (.ite (.var 6)
 (.letE ⟨(.idx 2), [(.fld (.var 1) 1), (.var 4)]⟩
 (.letE ⟨(.cells 0 2), [(.var 7)]⟩
 (.letE ⟨(.all 2), [(.var 8)]⟩
 (.label false
 (.ite (.var 10)
 (.ret [(.bool false)])
 (.label true
 (.letE ⟨.len, [(.fld (.var 9) 1)]⟩
 (.letE ⟨(.bin .lss 3), [(.var 12), (.var 13)]⟩
 (.ite (.var 14)
 (.label false
 (.ite (.var 15)
 (.ret [(.bool false)])
 (.letE ⟨(.bin .add 3), [(.var 12), (.int .i64 (1))]⟩
 (.jump 3 [(.var 11), (.var 16)])))
 (.letE ⟨(.idx 6), [(.fld (.var 9) 1), (.var 12)]⟩
 (.letE ⟨(.cells 0 6), [(.var 15)]⟩
 (.call 147 [(.var 16)] 1
 (.letE ⟨(.un .not), [(.var 17)]⟩
 (.ite (.var 18)
 (.jump 4 [(.bool true)])
 (.letE ⟨(.bin .gtr 3), [(.var 12), (.int .i64 (0))]⟩
 (.ite (.var 19)
 (.letE ⟨(.bin .sub 3), [(.var 12), (.int .i64 (1))]⟩
 (.letE ⟨(.idx 6), [(.fld (.var 9) 1), (.var 20)]⟩
 (.letE ⟨.a, [(.fld (.var 21) 0)]⟩
 (.letE ⟨.text, [(.var 22)]⟩
 (.letE ⟨(.idx 6), [(.fld (.var 9) 1), (.var 12)]⟩
 (.letE ⟨.a, [(.fld (.var 24) 0)]⟩
 (.letE ⟨.text, [(.var 25)]⟩
 (.letE ⟨(.bin .geq 9), [(.var 23), (.var 26)]⟩
 (.jump 4 [(.var 27)])))))))))
 (.jump 4 [(.bool false)])))))))))
 (.letE ⟨(.bin .add 3), [(.var 4), (.int .i64 (1))]⟩
 (.jump 1 [(.var 11), (.var 15)])))))
 (.jump 3 [(.var 3), (.int .i64 (0))])))
 (.call 145 [(.fld (.var 9) 0)] 1
 (.letE ⟨(.un .not), [(.var 10)]⟩
 (.ite (.var 11)
 (.jump 2 [(.bool true)])
 (.call 146 [(.fld (.var 1) 0), (.fld (.var 9) 0)] 1
 (.call 136 [(.var 12)] 1
 (.letE ⟨(.un .not), [(.var 13)]⟩
 (.ite (.var 14)
 (.jump 2 [(.bool true)])
 (.letE ⟨.len, [(.fld (.var 9) 1)]⟩
 (.letE ⟨(.bin .gtr 3), [(.var 15), (.int .i64 (4))]⟩
 (.ite (.var 16)
 (.jump 2 [(.bool true)])
 (.letE ⟨(.bin .gtr 3), [(.var 4), (.int .i64 (0))]⟩
 (.ite (.var 17)
 (.letE ⟨(.bin .sub 3), [(.var 4), (.int .i64 (1))]⟩
 (.letE ⟨(.idx 2), [(.fld (.var 1) 1), (.var 18)]⟩
 (.letE ⟨.a, [(.fld (.var 19) 0)]⟩
 (.letE ⟨.text, [(.var 20)]⟩
 (.letE ⟨.text, [(.fld (.var 9) 0)]⟩
 (.letE ⟨(.bin .geq 9), [(.var 21), (.var 22)]⟩
 (.jump 2 [(.var 23)])))))))
 (.jump 2 [(.bool false)])))))))))))))))))
 (.ret [(.bool true)]))))
 (.jump 1 [(.bool false), (.int .i64 (0))])))
 (.call 145 [(.fld (.var 1) 0)] 1
 (.letE ⟨(.un .not), [(.var 2)]⟩
 (.ite (.var 3)
 (.jump 0 [(.bool true)])
 (.letE ⟨.len, [(.fld (.var 1) 1)]⟩
 (.letE ⟨(.bin .gtr 3), [(.var 4), (.int .i64 (6))]⟩
 (.jump 0 [(.var 5)]))))))))
/- loop.example/g00365/laws.toCheck -/
def sg207 : Sig := ⟨[.val], [((.pair (.sl (.int .u8)) (.pair (.int .i64) (.pair (.int .i64) (.pair (.int .i64) (.pair (.int .i64) (.pair (.int .i64) .unit)))))), (.pair (.own .sh) .sh))], true, none⟩
def hi207 : Hints := []
def ir207 : IR := (.letE ⟨(.all 6), [(.var 0)]⟩
 (.call 91 [(.fld (.var 1) 0)] 1
 (.letE ⟨.atom, [(.var 2)]⟩
 (.letE ⟨.atom, [(.fld (.var 1) 1)]⟩
 (.letE ⟨.atom, [(.fld (.var 1) 2)]⟩
 (.letE ⟨.atom, [(.fld (.var 1) 3)]⟩
 (.letE ⟨.atom, [(.fld (.var 1) 4)]⟩
 (.letE ⟨.atom, [(.fld (.var 1) 5)]⟩
 (.letE ⟨.mk, [(.var 3), (.var 4), (.var 5), (.var 6), (.var 7), (.var 8)]⟩
 (.letE ⟨(.all 6), [(.var 9)]⟩
 (.letE ⟨.mk, [(.fld (.var 10) 0), (.fld (.var 10) 1), (.fld (.var 10) 2), (.fld (.var 10) 3), (.fld (.var 10) 4), (.fld (.var 10) 5)]⟩
 (.ret [(.var 11)]))))))))))))
/- loop.example/g00365/laws.toCheckS -/
def sg189 : Sig := ⟨[.val], [((.sl (.pair (.sl (.int .u8)) (.pair (.int .i64) (.pair (.int .i64) (.pair (.int .i64) (.pair (.int .i64) (.pair (.int .i64) .unit))))))), (.own (.pair (.own .sh) .sh)))], true, none⟩
def hi189 : Hints := [((0, 3), ⟨[(4, .sh), (2, (.own (.pair (.own .sh) .sh))), (3, (.own (.pair (.own .sh) .sh)))], [], []⟩)]
def ir189 : IR := (.letE ⟨.len, [(.var 0)]⟩
 (.letE ⟨.mk, [(.nil (.int .u8)), (.int .i64 (0)), (.int .i64 (0)), (.int .i64 (0)), (.int .i64 (0)), (.int .i64 (0))]⟩
 (.letE ⟨(.rep (.pair (.sl (.int .u8)) (.pair (.int .i64) (.pair (.int .i64) (.pair (.int .i64) (.pair (.int .i64) (.pair (.int .i64) .unit))))))), [(.var 1), (.var 2)]⟩
 (.label true
 (.letE ⟨.len, [(.var 0)]⟩
 (.letE ⟨(.bin .lss 3), [(.var 4), (.var 7)]⟩
 (.ite (.var 8)
 (.letE ⟨(.idx 6), [(.var 0), (.var 4)]⟩
 (.letE ⟨(.cells 0 6), [(.var 9)]⟩
 (.call 207 [(.var 10)] 1
 (.letE ⟨(.idx 6), [(.var 6), (.var 4)]⟩
 (.letE ⟨(.setE 6), [(.var 6), (.var 4), (.var 11)]⟩
 (.letE ⟨(.bin .add 3), [(.var 4), (.int .i64 (1))]⟩
 (.jump 0 [(.var 14), (.var 5), (.var 13)])))))))
 (.ret [(.var 6)]))))
 (.jump 0 [(.int .i64 (0)), (.nil (.pair (.sl (.int .u8)) (.pair (.int .i64) (.pair (.int .i64) (.pair (.int .i64) (.pair (.int .i64) (.pair (.int .i64) .unit))))))), (.var 3)])))))
/- loop.example/g00365/laws.toService -/
def sg150 : Sig := ⟨[.val], [((.pair (.sl (.int .u8)) (.pair (.sl (.pair (.sl (.int .u8)) (.pair (.int .i64) (.pair (.int .i64) (.pair (.int .i64) (.pair (.int .i64) (.pair (.int .i64) .unit))))))) .unit)), (.pair (.own .sh) (.pair (.own (.pair (.own .sh) .sh)) .sh)))], true, none⟩
def hi150 : Hints := []
def ir150 : IR := (.letE ⟨(.all 2), [(.var 0)]⟩
 (.call 91 [(.fld (.var 1) 0)] 1
 (.letE ⟨.atom, [(.var 2)]⟩
 (.call 189 [(.fld (.var 1) 1)] 1
 (.letE ⟨.atom, [(.var 4)]⟩
 (.letE ⟨.mk, [(.var 3), (.var 5)]⟩
 (.letE ⟨(.all 2), [(.var 6)]⟩
 (.letE ⟨.mk, [(.fld (.var 7) 0), (.fld (.var 7) 1)]⟩
 (.ret [(.var 8)])))))))))
/- loop.example/g00365/laws.toServiceS -/
def sg92 : Sig := ⟨[.val], [((.sl (.pair (.sl (.int .u8)) (.pair (.sl (.pair (.sl (.int .u8)) (.pair (.int .i64) (.pair (.int .i64) (.pair (.int .i64) (.pair (.int .i64) (.pair (.int .i64) .unit))))))) .unit))), (.own (.pair (.own .sh) (.pair (.own (.pair (.own .sh) .sh)) .sh))))], true, none⟩
def hi92 : Hints := [((0, 3), ⟨[(4, .sh), (2, (.own (.pair (.own .sh) (.pair (.own (.pair (.own .sh) .sh)) .sh)))), (3, (.own (.pair (.own .sh) (.pair (.own (.pair (.own .sh) .sh)) .sh))))], [], []⟩)]
def ir92 : IR := (.letE ⟨.len, [(.var 0)]⟩
 (.letE ⟨.mk, [(.nil (.int .u8)), (.nil (.pair (.sl (.int .u8)) (.pair (.int .i64) (.pair (.int .i64) (.pair (.int .i64) (.pair (.int .i64) (.pair (.int .i64) .unit)))))))]⟩
 (.letE ⟨(.rep (.pair (.sl (.int .u8)) (.pair (.sl (.pair (.sl (.int .u8)) (.pair (.int .i64) (.pair (.int .i64) (.pair (.int .i64) (.pair (.int .i64) (.pair (.int .i64) .unit))))))) .unit))), [(.var 1), (.var 2)]⟩
 (.label true
 (.letE ⟨.len, [(.var 0)]⟩
 (.letE ⟨(.bin .lss 3), [(.var 4), (.var 7)]⟩
 (.ite (.var 8)
 (.letE ⟨(.idx 2), [(.var 0), (.var 4)]⟩
 (.letE ⟨(.cells 0 2), [(.var 9)]⟩
 (.call 150 [(.var 10)] 1
 (.letE ⟨(.idx 2), [(.var 6), (.var 4)]⟩
 (.letE ⟨(.setE 2), [(.var 6), (.var 4), (.var 11)]⟩
 (.letE ⟨(.bin .add 3), [(.var 4), (.int .i64 (1))]⟩
 (.jump 0 [(.var 14), (.var 5), (.var 13)])))))))
 (.ret [(.var 6)]))))
 (.jump 0 [(.int .i64 (0)), (.nil (.pair (.sl (.int .u8)) (.pair (.sl (.pair (.sl (.int .u8)) (.pair (.int .i64) (.pair (.int .i64) (.pair (.int .i64) (.pair (.int .i64) (.pair (.int .i64) .unit))))))) .unit))), (.var 3)])))))
/- loop.example/g00365/laws.toLocal -/
def sg35 : Sig := ⟨[.val], [((.pair (.sl (.int .u8)) (.pair (.sl (.pair (.sl (.int .u8)) (.pair (.sl (.pair (.sl (.int .u8)) (.pair (.int .i64) (.pair (.int .i64) (.pair (.int .i64) (.pair (.int .i64) (.pair (.int .i64) .unit))))))) .unit))) .unit)), (.pair (.own .sh) (.pair (.own (.pair (.own .sh) (.pair (.own (.pair (.own .sh) .sh)) .sh))) .sh)))], true, none⟩
def hi35 : Hints := []
def ir35 : IR := (.letE ⟨(.all 2), [(.var 0)]⟩
 (.call 91 [(.fld (.var 1) 0)] 1
 (.letE ⟨.atom, [(.var 2)]⟩
 (.call 92 [(.fld (.var 1) 1)] 1
 (.letE ⟨.atom, [(.var 4)]⟩
 (.letE ⟨.mk, [(.var 3), (.var 5)]⟩
 (.letE ⟨(.all 2), [(.var 6)]⟩
 (.letE ⟨.mk, [(.fld (.var 7) 0), (.fld (.var 7) 1)]⟩
 (.ret [(.var 8)])))))))))
/- loop.example/g00365/laws.szCheck -/
def sg206 : Sig := ⟨[.val, .val], [((.int .i64), .sh)], true, none⟩
def hi206 : Hints := []
def ir206 : IR := (.letE ⟨(.all 6), [(.var 0)]⟩
 (.call 87 [(.fld (.var 2) 0), (.var 1)] 1
 (.letE ⟨(.bin .lss 3), [(.var 3), (.int .i64 (0))]⟩
 (.ite (.var 4)
 (.ret [(.int .i64 (-1))])
 (.ret [(.var 3)])))))
/- loop.example/g00365/laws.szCheckS -/
def sg188 : Sig := ⟨[.val, .val], [((.int .i64), .sh)], true, none⟩
def hi188 : Hints := [((0, 5), ⟨[(1, .sh), (4, .sh), (5, .sh)], [], []⟩)]
def ir188 : IR := (.letE ⟨.len, [(.var 0)]⟩
 (.letE ⟨(.bin .sub 3), [(.var 1), (.var 2)]⟩
 (.letE ⟨(.bin .lss 3), [(.var 3), (.int .i64 (0))]⟩
 (.ite (.var 4)
 (.ret [(.int .i64 (-1))])
 (.label true
 (.letE ⟨.len, [(.var 0)]⟩
 (.letE ⟨(.bin .lss 3), [(.var 7), (.var 8)]⟩
 (.ite (.var 9)
 (.letE ⟨(.idx 6), [(.var 0), (.var 7)]⟩
 (.letE ⟨(.cells 0 6), [(.var 10)]⟩
 (.call 206 [(.var 11), (.var 5)] 1
 (.letE ⟨(.bin .lss 3), [(.var 12), (.int .i64 (0))]⟩
 (.ite (.var 13)
 (.ret [(.int .i64 (-1))])
 (.letE ⟨(.bin .add 3), [(.var 7), (.int .i64 (1))]⟩
 (.jump 0 [(.var 12), (.var 6), (.var 14)])))))))
 (.ret [(.var 5)]))))
 (.jump 0 [(.var 3), (.int .i64 (0)), (.int .i64 (0))]))))))
/- loop.example/g00365/laws.szService -/
def sg144 : Sig := ⟨[.val, .val], [((.int .i64), .sh)], true, none⟩
def hi144 : Hints := []
def ir144 : IR := (.letE ⟨(.all 2), [(.var 0)]⟩
 (.call 87 [(.fld (.var 2) 0), (.var 1)] 1
 (.letE ⟨(.bin .lss 3), [(.var 3), (.int .i64 (0))]⟩
 (.ite (.var 4)
 (.ret [(.int .i64 (-1))])
 (.call 188 [(.fld (.var 2) 1), (.var 3)] 1
 (.letE ⟨(.bin .lss 3), [(.var 5), (.int .i64 (0))]⟩
 (.ite (.var 6)
 (.ret [(.int .i64 (-1))])
 (.ret [(.var 5)]))))))))
/- loop.example/g00365/laws.szServiceS -/
def sg88 : Sig := ⟨[.val, .val], [((.int .i64), .sh)], true, none⟩
def hi88 : Hints := [((0, 5), ⟨[(1, .sh), (4, .sh), (5, .sh)], [], []⟩)]
def ir88 : IR := (.letE ⟨.len, [(.var 0)]⟩
 (.letE ⟨(.bin .sub 3), [(.var 1), (.var 2)]⟩
 (.letE ⟨(.bin .lss 3), [(.var 3), (.int .i64 (0))]⟩
 (.ite (.var 4)
 (.ret [(.int .i64 (-1))])
 (.label true
 (.letE ⟨.len, [(.var 0)]⟩
 (.letE ⟨(.bin .lss 3), [(.var 7), (.var 8)]⟩
 (.ite (.var 9)
 (.letE ⟨(.idx 2), [(.var 0), (.var 7)]⟩
 (.letE ⟨(.cells 0 2), [(.var 10)]⟩
 (.call 144 [(.var 11), (.var 5)] 1
 (.letE ⟨(.bin .lss 3), [(.var 12), (.int .i64 (0))]⟩
 (.ite (.var 13)
 (.ret [(.int .i64 (-1))])
 (.letE ⟨(.bin .add 3), [(.var 7), (.int .i64 (1))]⟩
 (.jump 0 [(.var 12), (.var 6), (.var 14)])))))))
 (.ret [(.var 5)]))))
 (.jump 0 [(.var 3), (.int .i64 (0)), (.int .i64 (0))]))))))
/- loop.example/g00365/laws.szLocal -/
def sg33 : Sig := ⟨[.val, .val], [((.int .i64), .sh)], true, none⟩
def hi33 : Hints := []
def ir33 : IR := (.letE ⟨(.all 2), [(.var 0)]⟩
 (.call 87 [(.fld (.var 2) 0), (.var 1)] 1
 (.letE ⟨(.bin .lss 3), [(.var 3), (.int .i64 (0))]⟩
 (.ite (.var 4)
 (.ret [(.int .i64 (-1))])
 (.call 88 [(.fld (.var 2) 1), (.var 3)] 1
 (.letE ⟨(.bin .lss 3), [(.var 5), (.int .i64 (0))]⟩
 (.ite (.var 6)
 (.ret [(.int .i64 (-1))])
 (.ret [(.var 5)]))))))))
/- loop.example/g00365/impl.Worst -/
def sg157 : Sig := ⟨[.val], [((.int .i64), .sh)], true, none⟩
def hi157 : Hints := [((0, 3), ⟨[(2, .sh), (3, .sh), (8, .sh)], [], []⟩)]
def ir157 : IR := (.letE ⟨.len, [(.var 0)]⟩
 (.label true
 (.letE ⟨(.bin .lss 3), [(.var 4), (.var 1)]⟩
 (.ite (.var 5)
 (.letE ⟨(.idx 6), [(.var 0), (.var 4)]⟩
 (.letE ⟨(.cells 0 6), [(.var 6)]⟩
 (.letE ⟨(.all 6), [(.var 7)]⟩
 (.letE ⟨.mk, [(.fld (.var 8) 0), (.fld (.var 8) 1), (.fld (.var 8) 2), (.fld (.var 8) 3), (.fld (.var 8) 4), (.fld (.var 8) 5)]⟩
 (.call 155 [(.var 9)] 1
 (.letE ⟨(.un .not), [(.var 10)]⟩
 (.ite (.var 11)
 (.ret [(.int .i64 (2))])
 (.letE ⟨.mx, [(.var 3), (.fld (.var 8) 3)]⟩
 (.letE ⟨(.bin .add 3), [(.var 4), (.int .i64 (1))]⟩
 (.jump 0 [(.var 2), (.var 12), (.var 13)]))))))))))
 (.ret [(.var 3)])))
 (.jump 0 [(.int .i64 (0)), (.int .i64 (0)), (.int .i64 (0))])))
/- (loop.example/g00365/impl.Local).want -/
def sg94 : Sig := ⟨[.val], [((.sl (.pair (.sl (.int .u8)) (.pair (.sl (.int .u8)) .unit))), (.own (.pair (.own .sh) (.pair (.own .sh) .sh))))], true, none⟩
def hi94 : Hints := [((0, 3), ⟨[(3, (.own (.pair (.own .sh) (.pair (.own .sh) .sh)))), (9, .sh), (2, (.own (.pair (.own .sh) (.pair (.own .sh) .sh))))], [], []⟩)]
def ir94 : IR := (.letE ⟨(.all 2), [(.var 0)]⟩
 (.letE ⟨.len, [(.fld (.var 1) 1)]⟩
 (.label true
 (.letE ⟨(.bin .lss 3), [(.var 4), (.var 2)]⟩
 (.ite (.var 6)
 (.letE ⟨(.idx 2), [(.fld (.var 1) 1), (.var 4)]⟩
 (.letE ⟨(.cells 0 2), [(.var 7)]⟩
 (.letE ⟨(.all 2), [(.var 8)]⟩
 (.letE ⟨.mk, [(.fld (.var 1) 0), (.fld (.var 1) 1)]⟩
 (.call 153 [(.var 10), (.fld (.var 9) 0)] 1
 (.call 157 [(.fld (.var 9) 1)] 1
 (.call 156 [(.var 12)] 1
 (.letE ⟨.atom, [(.var 11)]⟩
 (.letE ⟨.atom, [(.var 13)]⟩
 (.letE ⟨.mk, [(.var 14), (.var 15)]⟩
 (.letE ⟨(.lst (.pair (.sl (.int .u8)) (.pair (.sl (.int .u8)) .unit))), [(.var 16)]⟩
 (.letE ⟨(.app (.pair (.sl (.int .u8)) (.pair (.sl (.int .u8)) .unit))), [(.var 3), (.var 17)]⟩
 (.letE ⟨(.bin .add 3), [(.var 4), (.int .i64 (1))]⟩
 (.jump 0 [(.var 18), (.var 19), (.var 5)]))))))))))))))
 (.ret [(.var 3)])))
 (.jump 0 [(.nil (.pair (.sl (.int .u8)) (.pair (.sl (.int .u8)) .unit))), (.int .i64 (0)), (.nil (.pair (.sl (.int .u8)) (.pair (.sl (.int .u8)) .unit)))]))))
/- loop.example/g00365/impl.Want -/
def sg36 : Sig := ⟨[.val], [((.sl (.pair (.sl (.int .u8)) (.pair (.sl (.int .u8)) .unit))), (.own (.pair (.own .sh) (.pair (.own .sh) .sh))))], true, none⟩
def hi36 : Hints := []
def ir36 : IR := (.letE ⟨(.all 2), [(.var 0)]⟩
 (.letE ⟨.mk, [(.fld (.var 1) 0), (.fld (.var 1) 1)]⟩
 (.call 93 [(.var 2)] 1
 (.letE ⟨(.un .not), [(.var 3)]⟩
 (.ite (.var 4)
 (.ret [(.nil (.pair (.sl (.int .u8)) (.pair (.sl (.int .u8)) .unit)))])
 (.letE ⟨.mk, [(.fld (.var 1) 0), (.fld (.var 1) 1)]⟩
 (.call 94 [(.var 5)] 1
 (.ret [(.var 6)]))))))))
/- loop.example/g00365/spec.Worst -/
def sg149 : Sig := ⟨[.val], [((.int .i64), .sh)], true, none⟩
def hi149 : Hints := [((0, 3), ⟨[(2, .sh), (3, .sh), (4, .sh)], [], []⟩)]
def ir149 : IR := (.label true
 (.letE ⟨.len, [(.var 0)]⟩
 (.letE ⟨(.bin .lss 3), [(.var 3), (.var 4)]⟩
 (.ite (.var 5)
 (.letE ⟨(.idx 6), [(.var 0), (.var 3)]⟩
 (.letE ⟨(.cells 0 6), [(.var 6)]⟩
 (.call 147 [(.var 7)] 1
 (.letE ⟨(.un .not), [(.var 8)]⟩
 (.ite (.var 9)
 (.ret [(.int .i64 (2))])
 (.letE ⟨(.idx 6), [(.var 0), (.var 3)]⟩
 (.letE ⟨.a, [(.fld (.var 10) 3)]⟩
 (.letE ⟨(.bin .gtr 3), [(.var 11), (.var 2)]⟩
 (.ite (.var 12)
 (.letE ⟨(.idx 6), [(.var 0), (.var 3)]⟩
 (.letE ⟨.a, [(.fld (.var 13) 3)]⟩
 (.letE ⟨(.bin .add 3), [(.var 3), (.int .i64 (1))]⟩
 (.jump 0 [(.var 1), (.var 14), (.var 15)]))))
 (.letE ⟨(.bin .add 3), [(.var 3), (.int .i64 (1))]⟩
 (.jump 0 [(.var 1), (.var 2), (.var 13)])))))))))))
 (.ret [(.var 2)]))))
 (.jump 0 [(.int .i64 (0)), (.int .i64 (0)), (.int .i64 (0))]))
/- loop.example/g00365/spec.l14want -/
def sg90 : Sig := ⟨[.val], [((.sl (.pair (.sl (.int .u8)) (.pair (.sl (.int .u8)) .unit))), (.own (.pair (.own .sh) (.pair (.own .sh) .sh))))], true, none⟩
def hi90 : Hints := [((0, 3), ⟨[(3, (.own (.pair (.own .sh) (.pair (.own .sh) .sh)))), (4, .sh), (2, (.own (.pair (.own .sh) (.pair (.own .sh) .sh))))], [], []⟩)]
def ir90 : IR := (.letE ⟨(.all 2), [(.var 0)]⟩
 (.label true
 (.letE ⟨.len, [(.fld (.var 1) 1)]⟩
 (.letE ⟨(.bin .lss 3), [(.var 3), (.var 5)]⟩
 (.ite (.var 6)
 (.letE ⟨(.idx 2), [(.fld (.var 1) 1), (.var 3)]⟩
 (.letE ⟨(.cells 0 2), [(.var 7)]⟩
 (.letE ⟨(.all 2), [(.var 8)]⟩
 (.call 146 [(.fld (.var 1) 0), (.fld (.var 9) 0)] 1
 (.call 149 [(.fld (.var 9) 1)] 1
 (.call 148 [(.var 11)] 1
 (.letE ⟨.atom, [(.var 10)]⟩
 (.letE ⟨.atom, [(.var 12)]⟩
 (.letE ⟨.mk, [(.var 13), (.var 14)]⟩
 (.letE ⟨(.lst (.pair (.sl (.int .u8)) (.pair (.sl (.int .u8)) .unit))), [(.var 15)]⟩
 (.letE ⟨(.app (.pair (.sl (.int .u8)) (.pair (.sl (.int .u8)) .unit))), [(.var 2), (.var 16)]⟩
 (.letE ⟨(.bin .add 3), [(.var 3), (.int .i64 (1))]⟩
 (.jump 0 [(.var 17), (.var 18), (.var 4)])))))))))))))
 (.ret [(.var 2)]))))
 (.jump 0 [(.nil (.pair (.sl (.int .u8)) (.pair (.sl (.int .u8)) .unit))), (.int .i64 (0)), (.nil (.pair (.sl (.int .u8)) (.pair (.sl (.int .u8)) .unit)))])))
/- loop.example/g00365/spec.Want -/
def sg34 : Sig := ⟨[.val], [((.sl (.pair (.sl (.int .u8)) (.pair (.sl (.int .u8)) .unit))), (.own (.pair (.own .sh) (.pair (.own .sh) .sh))))], true, none⟩
def hi34 : Hints := []
def ir34 : IR := (.letE ⟨(.all 2), [(.var 0)]⟩
 (.letE ⟨.mk, [(.fld (.var 1) 0), (.fld (.var 1) 1)]⟩
 (.call 89 [(.var 2)] 1
 (.letE ⟨(.un .not), [(.var 3)]⟩
 (.ite (.var 4)
 (.ret [(.nil (.pair (.sl (.int .u8)) (.pair (.sl (.int .u8)) .unit)))])
 (.letE ⟨.mk, [(.fld (.var 1) 0), (.fld (.var 1) 1)]⟩
 (.call 90 [(.var 5)] 1
 (.ret [(.var 6)]))))))))
/- loop.example/g00365/laws.FnExactWant -/
def sg8 : Sig := ⟨[.val], [(.bool, .sh)], true, none⟩
def hi8 : Hints := []
def ir8 : IR := (.letE ⟨(.all 2), [(.var 0)]⟩
 (.letE ⟨.mk, [(.fld (.var 1) 0), (.fld (.var 1) 1)]⟩
 (.call 33 [(.var 2), (.int .i64 (1048576))] 1
 (.letE ⟨(.bin .lss 3), [(.var 3), (.int .i64 (0))]⟩
 (.ite (.var 4)
 (.ret [(.bool true)])
 (.letE ⟨.mk, [(.fld (.var 1) 0), (.fld (.var 1) 1)]⟩
 (.call 35 [(.var 5)] 1
 (.call 34 [(.var 6)] 1
 (.letE ⟨.mk, [(.fld (.var 1) 0), (.fld (.var 1) 1)]⟩
 (.call 35 [(.var 8)] 1
 (.letE ⟨(.all 2), [(.var 9)]⟩
 (.letE ⟨.mk, [(.fld (.var 10) 0), (.fld (.var 10) 1)]⟩
 (.call 36 [(.var 11)] 1
 (.call 37 [(.var 12), (.var 7)] 1
 (.letE ⟨(.un .not), [(.var 13)]⟩
 (.ite (.var 14)
 (.ret [(.bool false)])
 (.letE ⟨.mk, [(.fld (.var 1) 0), (.fld (.var 1) 1)]⟩
 (.call 35 [(.var 15)] 1
 (.letE ⟨.mk, [(.fld (.var 10) 0), (.fld (.var 10) 1)]⟩
 (.call 38 [(.var 17), (.var 16)] 1
 (.letE ⟨(.un .not), [(.var 18)]⟩
 (.ite (.var 19)
 (.ret [(.bool false)])
 (.letE ⟨.mk, [(.fld (.var 10) 0), (.fld (.var 10) 1)]⟩
 (.call 39 [(.int .i64 (1)), (.var 20)] 2
 (.letE ⟨(.bin .lss 3), [(.var 21), (.int .i64 (0))]⟩
 (.ite (.var 23)
 (.ret [(.bool false)])
 (.call 37 [(.var 12), (.var 7)] 1
 (.letE ⟨(.un .not), [(.var 24)]⟩
 (.ite (.var 25)
 (.ret [(.bool false)])
 (.call 40 [(.int .i64 (1)), (.var 12)] 2
 (.call 41 [(.var 27), (.int .i64 (1))] 1
 (.letE ⟨(.bin .lss 3), [(.var 28), (.int .i64 (0))]⟩
 (.ite (.var 29)
 (.ret [(.bool false)])
 (.letE ⟨(.bin .neq 3), [(.var 28), (.var 26)]⟩
 (.ite (.var 30)
 (.ret [(.bool false)])
 (.letE ⟨.mk, [(.fld (.var 1) 0), (.fld (.var 1) 1)]⟩
 (.call 35 [(.var 31)] 1
 (.call 36 [(.var 32)] 1
 (.call 37 [(.var 33), (.var 7)] 1
 (.letE ⟨(.un .not), [(.var 34)]⟩
 (.ite (.var 35)
 (.ret [(.bool false)])
 (.call 41 [(.var 27), (.int .i64 (1))] 1
 (.letE ⟨(.bin .lss 3), [(.var 36), (.int .i64 (0))]⟩
 (.ite (.var 37)
 (.ret [(.bool false)])
 (.letE ⟨(.bin .neq 3), [(.var 36), (.var 26)]⟩
 (.ite (.var 38)
 (.ret [(.bool false)])
 (.ret [(.bool true)])))))))))))))))))))))))))))))))))))))))))))))))
def Sn : Nat → Option Sig := fun n => match n with
  | 154 => some sgCmp
  | 196 => some sgGrow
  | _ => none
def Bn : Fns := fun n ds => match n with
  | 154 => cmpB ds
  | 196 => growB ds
  | _ => none
set_option maxHeartbeats 8000000 in
theorem walk154 (A0 A1 : Option Addr) (n0 n1 c0 c1 : Nat) (r : Int) (w : World) (h : (Extern.BytealgCompare.compare #[.slice A0 n0 c0, .slice A1 n1 c1]).run Try.prog w = .ok (.int .i64 r) w) :
    Calls Try.prog 154 #[.slice A0 n0 c0, .slice A1 n1 c1] w fun e w' => e = .returned (.int .i64 r) ∧ Ext w w' [] := by
  go_enter Try.func154, Try.ntmps154
  go_wp2
  rw [run_callFunc_extern Try.func192 (by kernel_rfl) (by kernel_rfl) (by kernel_rfl) (e := Extern.BytealgCompare.compare) (by kernel_rfl), h]
  simp only [Result.andThen]
  rw [Oper.upon_value]
  go_wp2
  go_ret
  exact ⟨rfl, Ext.refl _ _⟩
set_option maxHeartbeats 8000000 in
theorem walk196a (w : World) : Calls Try.prog 196 #[.slice none 0 0, .int .i64 0] w fun e w' => e = .returned (.slice none 0 0) ∧ Ext w w' [] := by
  have w0 : wrap64 ((0 : Int) - 0) = 0 := by unfold wrap64; omega
  go_enter Try.func196, Try.ntmps196
  go_wp2
  go_ret
  exact ⟨rfl, Ext.refl _ _⟩
theorem info5 : (Try.prog.info? 5).map (fun i => (i.zero, i.size, i.bytes)) = some (some (.int .u8 0), 1, 1) := by kernel_rfl
set_option maxHeartbeats 8000000 in
theorem walk196b (m : Nat) (w : World) (h0 : 0 < m) (h1 : m < maxRow) : Calls Try.prog 196 #[.slice none 0 0, .int .i64 m] w fun e w' => ∃ c ty, e = .returned (.slice (some ⟨w.heap.size, 0, none⟩) 0 (Array.size c)) ∧ w'.heap[w.heap.size]? = some (.cells c ty) ∧ Ext w w' [] := by
  have h1' : m < 4294967296 := h1
  have w0 : wrap64 ((0 : Int) - 0) = 0 := by unfold wrap64; omega
  have w1 : wrap64 ((m : Int) - 0) = m := by unfold wrap64; omega
  have w2 : wrap64 (m : Int) = m := by unfold wrap64; omega
  have d0 : decide ((m : Int) < 0) = false := decide_eq_false (by omega)
  have d1 : decide ((m : Int) > 0) = true := decide_eq_true (by omega)
  have d2 : decide (0 < (m : Int)) = true := decide_eq_true (by omega)
  obtain ⟨i5, hi5, hz⟩ := Option.map_eq_some_iff.1 info5
  simp only [Prod.mk.injEq] at hz
  obtain ⟨z1, z2, z3⟩ := hz
  have hge := grownCap_ge w m 0 5
  have hcut0 := cut_to (P := Try.prog) 22 5 .i64 Try.underlying22 hi5 none 0 0 0 (by omega) (by omega) (by omega)
  have hcut1 := cut_to (P := Try.prog) 22 5 .i64 Try.underlying22 hi5 (some ⟨w.heap.size, 0, none⟩) m (grownCap w m 0 5) 0 (by omega) (by omega) hge
  go_enter Try.func196, Try.ntmps196
  go_wp2_with (at_builtin; refine wp_append_zeros rfl (.tmp 20) (.tmp 21) 22 3 5 rfl Try.underlying22 Try.underlying3 hi5 z1 (by omega) (by rw [z2]; rfl) (by omega) .i64 m h0 h1 rfl rfl ?_)
  go_ret
  refine ⟨_, 5, by simp [size_zeroCells, Value.cells]; omega, new_block _ _, Ext.of_below (((Below.refl _ _).drew).alloc (Nat.le_refl _) _)⟩
theorem nat : ∀ f s, Sn f = some s → Con Try.prog Bn f s := by
  intro f s h
  unfold Sn at h
  split at h
  · simp only [Option.some.injEq] at h
    subst h
    exact con_cmp (fun _ => rfl) walk154
  · simp only [Option.some.injEq] at h
    subst h
    exact con_grow (fun _ => rfl) walk196a walk196b
  · cases h
def T : Nat → Option (Sig × IR) := fun n => match n with
  | 100 => some (sg100, ir100)
  | 41 => some (sg41, ir41)
  | 98 => some (sg98, ir98)
  | 96 => some (sg96, ir96)
  | 95 => some (sg95, ir95)
  | 37 => some (sg37, ir37)
  | 163 => some (sg163, ir163)
  | 168 => some (sg168, ir168)
  | 191 => some (sg191, ir191)
  | 153 => some (sg153, ir153)
  | 208 => some (sg208, ir208)
  | 190 => some (sg190, ir190)
  | 60 => some (sg60, ir60)
  | 152 => some (sg152, ir152)
  | 151 => some (sg151, ir151)
  | 148 => some (sg148, ir148)
  | 146 => some (sg146, ir146)
  | 136 => some (sg136, ir136)
  | 145 => some (sg145, ir145)
  | 91 => some (sg91, ir91)
  | 87 => some (sg87, ir87)
  | 40 => some (sg40, ir40)
  | 159 => some (sg159, ir159)
  | 99 => some (sg99, ir99)
  | 39 => some (sg39, ir39)
  | 209 => some (sg209, ir209)
  | 193 => some (sg193, ir193)
  | 158 => some (sg158, ir158)
  | 97 => some (sg97, ir97)
  | 38 => some (sg38, ir38)
  | 156 => some (sg156, ir156)
  | 155 => some (sg155, ir155)
  | 93 => some (sg93, ir93)
  | 147 => some (sg147, ir147)
  | 89 => some (sg89, ir89)
  | 207 => some (sg207, ir207)
  | 189 => some (sg189, ir189)
  | 150 => some (sg150, ir150)
  | 92 => some (sg92, ir92)
  | 35 => some (sg35, ir35)
  | 206 => some (sg206, ir206)
  | 188 => some (sg188, ir188)
  | 144 => some (sg144, ir144)
  | 88 => some (sg88, ir88)
  | 33 => some (sg33, ir33)
  | 157 => some (sg157, ir157)
  | 94 => some (sg94, ir94)
  | 36 => some (sg36, ir36)
  | 149 => some (sg149, ir149)
  | 90 => some (sg90, ir90)
  | 34 => some (sg34, ir34)
  | 8 => some (sg8, ir8)
  | _ => none
noncomputable abbrev Lv (N k : Nat) : Fns := level Sn Bn T N k
def Cs : Nat → Option Sig := shapes Sn T
theorem t100 : fnIR Try.prog Cs hi100 Try.f100 sg100 = some ir100 := by kernel_rfl
theorem t41 : fnIR Try.prog Cs hi41 Try.f41 sg41 = some ir41 := by kernel_rfl
theorem t98 : fnIR Try.prog Cs hi98 Try.f98 sg98 = some ir98 := by kernel_rfl
theorem t96 : fnIR Try.prog Cs hi96 Try.f96 sg96 = some ir96 := by kernel_rfl
theorem t95 : fnIR Try.prog Cs hi95 Try.f95 sg95 = some ir95 := by kernel_rfl
theorem t37 : fnIR Try.prog Cs hi37 Try.f37 sg37 = some ir37 := by kernel_rfl
theorem t163 : fnIR Try.prog Cs hi163 Try.f163 sg163 = some ir163 := by kernel_rfl
theorem t168 : fnIR Try.prog Cs hi168 Try.f168 sg168 = some ir168 := by kernel_rfl
theorem t191 : fnIR Try.prog Cs hi191 Try.f191 sg191 = some ir191 := by kernel_rfl
theorem t153 : fnIR Try.prog Cs hi153 Try.f153 sg153 = some ir153 := by kernel_rfl
theorem t208 : fnIR Try.prog Cs hi208 Try.f208 sg208 = some ir208 := by kernel_rfl
theorem t190 : fnIR Try.prog Cs hi190 Try.f190 sg190 = some ir190 := by kernel_rfl
theorem t60 : fnIR Try.prog Cs hi60 Try.f60 sg60 = some ir60 := by kernel_rfl
theorem t152 : fnIR Try.prog Cs hi152 Try.f152 sg152 = some ir152 := by kernel_rfl
theorem t151 : fnIR Try.prog Cs hi151 Try.f151 sg151 = some ir151 := by kernel_rfl
theorem t148 : fnIR Try.prog Cs hi148 Try.f148 sg148 = some ir148 := by kernel_rfl
theorem t146 : fnIR Try.prog Cs hi146 Try.f146 sg146 = some ir146 := by kernel_rfl
theorem t136 : fnIR Try.prog Cs hi136 Try.f136 sg136 = some ir136 := by kernel_rfl
theorem t145 : fnIR Try.prog Cs hi145 Try.f145 sg145 = some ir145 := by kernel_rfl
theorem t91 : fnIR Try.prog Cs hi91 Try.f91 sg91 = some ir91 := by kernel_rfl
theorem t87 : fnIR Try.prog Cs hi87 Try.f87 sg87 = some ir87 := by kernel_rfl
theorem t40 : fnIR Try.prog Cs hi40 Try.f40 sg40 = some ir40 := by kernel_rfl
theorem t159 : fnIR Try.prog Cs hi159 Try.f159 sg159 = some ir159 := by kernel_rfl
theorem t99 : fnIR Try.prog Cs hi99 Try.f99 sg99 = some ir99 := by kernel_rfl
theorem t39 : fnIR Try.prog Cs hi39 Try.f39 sg39 = some ir39 := by kernel_rfl
theorem t209 : fnIR Try.prog Cs hi209 Try.f209 sg209 = some ir209 := by kernel_rfl
theorem t193 : fnIR Try.prog Cs hi193 Try.f193 sg193 = some ir193 := by kernel_rfl
theorem t158 : fnIR Try.prog Cs hi158 Try.f158 sg158 = some ir158 := by kernel_rfl
theorem t97 : fnIR Try.prog Cs hi97 Try.f97 sg97 = some ir97 := by kernel_rfl
theorem t38 : fnIR Try.prog Cs hi38 Try.f38 sg38 = some ir38 := by kernel_rfl
theorem t156 : fnIR Try.prog Cs hi156 Try.f156 sg156 = some ir156 := by kernel_rfl
theorem t155 : fnIR Try.prog Cs hi155 Try.f155 sg155 = some ir155 := by kernel_rfl
theorem t93 : fnIR Try.prog Cs hi93 Try.f93 sg93 = some ir93 := by kernel_rfl
theorem t147 : fnIR Try.prog Cs hi147 Try.f147 sg147 = some ir147 := by kernel_rfl
theorem t89 : fnIR Try.prog Cs hi89 Try.f89 sg89 = some ir89 := by kernel_rfl
theorem t207 : fnIR Try.prog Cs hi207 Try.f207 sg207 = some ir207 := by kernel_rfl
theorem t189 : fnIR Try.prog Cs hi189 Try.f189 sg189 = some ir189 := by kernel_rfl
theorem t150 : fnIR Try.prog Cs hi150 Try.f150 sg150 = some ir150 := by kernel_rfl
theorem t92 : fnIR Try.prog Cs hi92 Try.f92 sg92 = some ir92 := by kernel_rfl
theorem t35 : fnIR Try.prog Cs hi35 Try.f35 sg35 = some ir35 := by kernel_rfl
theorem t206 : fnIR Try.prog Cs hi206 Try.f206 sg206 = some ir206 := by kernel_rfl
theorem t188 : fnIR Try.prog Cs hi188 Try.f188 sg188 = some ir188 := by kernel_rfl
theorem t144 : fnIR Try.prog Cs hi144 Try.f144 sg144 = some ir144 := by kernel_rfl
theorem t88 : fnIR Try.prog Cs hi88 Try.f88 sg88 = some ir88 := by kernel_rfl
theorem t33 : fnIR Try.prog Cs hi33 Try.f33 sg33 = some ir33 := by kernel_rfl
theorem t157 : fnIR Try.prog Cs hi157 Try.f157 sg157 = some ir157 := by kernel_rfl
theorem t94 : fnIR Try.prog Cs hi94 Try.f94 sg94 = some ir94 := by kernel_rfl
theorem t36 : fnIR Try.prog Cs hi36 Try.f36 sg36 = some ir36 := by kernel_rfl
theorem t149 : fnIR Try.prog Cs hi149 Try.f149 sg149 = some ir149 := by kernel_rfl
theorem t90 : fnIR Try.prog Cs hi90 Try.f90 sg90 = some ir90 := by kernel_rfl
theorem t34 : fnIR Try.prog Cs hi34 Try.f34 sg34 = some ir34 := by kernel_rfl
theorem t8 : fnIR Try.prog Cs hi8 Try.f8 sg8 = some ir8 := by kernel_rfl
theorem tab : ∀ f s ir, T f = some (s, ir) → ∃ fn H, Try.prog.funcs[f]? = some fn ∧ fnIR Try.prog (shapes Sn T) H fn s = some ir := by
  intro f s ir h
  unfold T at h
  split at h
  · simp only [Option.some.injEq, Prod.mk.injEq] at h
    obtain ⟨rfl, rfl⟩ := h
    exact ⟨Try.f100, hi100, Try.func100, t100⟩
  · simp only [Option.some.injEq, Prod.mk.injEq] at h
    obtain ⟨rfl, rfl⟩ := h
    exact ⟨Try.f41, hi41, Try.func41, t41⟩
  · simp only [Option.some.injEq, Prod.mk.injEq] at h
    obtain ⟨rfl, rfl⟩ := h
    exact ⟨Try.f98, hi98, Try.func98, t98⟩
  · simp only [Option.some.injEq, Prod.mk.injEq] at h
    obtain ⟨rfl, rfl⟩ := h
    exact ⟨Try.f96, hi96, Try.func96, t96⟩
  · simp only [Option.some.injEq, Prod.mk.injEq] at h
    obtain ⟨rfl, rfl⟩ := h
    exact ⟨Try.f95, hi95, Try.func95, t95⟩
  · simp only [Option.some.injEq, Prod.mk.injEq] at h
    obtain ⟨rfl, rfl⟩ := h
    exact ⟨Try.f37, hi37, Try.func37, t37⟩
  · simp only [Option.some.injEq, Prod.mk.injEq] at h
    obtain ⟨rfl, rfl⟩ := h
    exact ⟨Try.f163, hi163, Try.func163, t163⟩
  · simp only [Option.some.injEq, Prod.mk.injEq] at h
    obtain ⟨rfl, rfl⟩ := h
    exact ⟨Try.f168, hi168, Try.func168, t168⟩
  · simp only [Option.some.injEq, Prod.mk.injEq] at h
    obtain ⟨rfl, rfl⟩ := h
    exact ⟨Try.f191, hi191, Try.func191, t191⟩
  · simp only [Option.some.injEq, Prod.mk.injEq] at h
    obtain ⟨rfl, rfl⟩ := h
    exact ⟨Try.f153, hi153, Try.func153, t153⟩
  · simp only [Option.some.injEq, Prod.mk.injEq] at h
    obtain ⟨rfl, rfl⟩ := h
    exact ⟨Try.f208, hi208, Try.func208, t208⟩
  · simp only [Option.some.injEq, Prod.mk.injEq] at h
    obtain ⟨rfl, rfl⟩ := h
    exact ⟨Try.f190, hi190, Try.func190, t190⟩
  · simp only [Option.some.injEq, Prod.mk.injEq] at h
    obtain ⟨rfl, rfl⟩ := h
    exact ⟨Try.f60, hi60, Try.func60, t60⟩
  · simp only [Option.some.injEq, Prod.mk.injEq] at h
    obtain ⟨rfl, rfl⟩ := h
    exact ⟨Try.f152, hi152, Try.func152, t152⟩
  · simp only [Option.some.injEq, Prod.mk.injEq] at h
    obtain ⟨rfl, rfl⟩ := h
    exact ⟨Try.f151, hi151, Try.func151, t151⟩
  · simp only [Option.some.injEq, Prod.mk.injEq] at h
    obtain ⟨rfl, rfl⟩ := h
    exact ⟨Try.f148, hi148, Try.func148, t148⟩
  · simp only [Option.some.injEq, Prod.mk.injEq] at h
    obtain ⟨rfl, rfl⟩ := h
    exact ⟨Try.f146, hi146, Try.func146, t146⟩
  · simp only [Option.some.injEq, Prod.mk.injEq] at h
    obtain ⟨rfl, rfl⟩ := h
    exact ⟨Try.f136, hi136, Try.func136, t136⟩
  · simp only [Option.some.injEq, Prod.mk.injEq] at h
    obtain ⟨rfl, rfl⟩ := h
    exact ⟨Try.f145, hi145, Try.func145, t145⟩
  · simp only [Option.some.injEq, Prod.mk.injEq] at h
    obtain ⟨rfl, rfl⟩ := h
    exact ⟨Try.f91, hi91, Try.func91, t91⟩
  · simp only [Option.some.injEq, Prod.mk.injEq] at h
    obtain ⟨rfl, rfl⟩ := h
    exact ⟨Try.f87, hi87, Try.func87, t87⟩
  · simp only [Option.some.injEq, Prod.mk.injEq] at h
    obtain ⟨rfl, rfl⟩ := h
    exact ⟨Try.f40, hi40, Try.func40, t40⟩
  · simp only [Option.some.injEq, Prod.mk.injEq] at h
    obtain ⟨rfl, rfl⟩ := h
    exact ⟨Try.f159, hi159, Try.func159, t159⟩
  · simp only [Option.some.injEq, Prod.mk.injEq] at h
    obtain ⟨rfl, rfl⟩ := h
    exact ⟨Try.f99, hi99, Try.func99, t99⟩
  · simp only [Option.some.injEq, Prod.mk.injEq] at h
    obtain ⟨rfl, rfl⟩ := h
    exact ⟨Try.f39, hi39, Try.func39, t39⟩
  · simp only [Option.some.injEq, Prod.mk.injEq] at h
    obtain ⟨rfl, rfl⟩ := h
    exact ⟨Try.f209, hi209, Try.func209, t209⟩
  · simp only [Option.some.injEq, Prod.mk.injEq] at h
    obtain ⟨rfl, rfl⟩ := h
    exact ⟨Try.f193, hi193, Try.func193, t193⟩
  · simp only [Option.some.injEq, Prod.mk.injEq] at h
    obtain ⟨rfl, rfl⟩ := h
    exact ⟨Try.f158, hi158, Try.func158, t158⟩
  · simp only [Option.some.injEq, Prod.mk.injEq] at h
    obtain ⟨rfl, rfl⟩ := h
    exact ⟨Try.f97, hi97, Try.func97, t97⟩
  · simp only [Option.some.injEq, Prod.mk.injEq] at h
    obtain ⟨rfl, rfl⟩ := h
    exact ⟨Try.f38, hi38, Try.func38, t38⟩
  · simp only [Option.some.injEq, Prod.mk.injEq] at h
    obtain ⟨rfl, rfl⟩ := h
    exact ⟨Try.f156, hi156, Try.func156, t156⟩
  · simp only [Option.some.injEq, Prod.mk.injEq] at h
    obtain ⟨rfl, rfl⟩ := h
    exact ⟨Try.f155, hi155, Try.func155, t155⟩
  · simp only [Option.some.injEq, Prod.mk.injEq] at h
    obtain ⟨rfl, rfl⟩ := h
    exact ⟨Try.f93, hi93, Try.func93, t93⟩
  · simp only [Option.some.injEq, Prod.mk.injEq] at h
    obtain ⟨rfl, rfl⟩ := h
    exact ⟨Try.f147, hi147, Try.func147, t147⟩
  · simp only [Option.some.injEq, Prod.mk.injEq] at h
    obtain ⟨rfl, rfl⟩ := h
    exact ⟨Try.f89, hi89, Try.func89, t89⟩
  · simp only [Option.some.injEq, Prod.mk.injEq] at h
    obtain ⟨rfl, rfl⟩ := h
    exact ⟨Try.f207, hi207, Try.func207, t207⟩
  · simp only [Option.some.injEq, Prod.mk.injEq] at h
    obtain ⟨rfl, rfl⟩ := h
    exact ⟨Try.f189, hi189, Try.func189, t189⟩
  · simp only [Option.some.injEq, Prod.mk.injEq] at h
    obtain ⟨rfl, rfl⟩ := h
    exact ⟨Try.f150, hi150, Try.func150, t150⟩
  · simp only [Option.some.injEq, Prod.mk.injEq] at h
    obtain ⟨rfl, rfl⟩ := h
    exact ⟨Try.f92, hi92, Try.func92, t92⟩
  · simp only [Option.some.injEq, Prod.mk.injEq] at h
    obtain ⟨rfl, rfl⟩ := h
    exact ⟨Try.f35, hi35, Try.func35, t35⟩
  · simp only [Option.some.injEq, Prod.mk.injEq] at h
    obtain ⟨rfl, rfl⟩ := h
    exact ⟨Try.f206, hi206, Try.func206, t206⟩
  · simp only [Option.some.injEq, Prod.mk.injEq] at h
    obtain ⟨rfl, rfl⟩ := h
    exact ⟨Try.f188, hi188, Try.func188, t188⟩
  · simp only [Option.some.injEq, Prod.mk.injEq] at h
    obtain ⟨rfl, rfl⟩ := h
    exact ⟨Try.f144, hi144, Try.func144, t144⟩
  · simp only [Option.some.injEq, Prod.mk.injEq] at h
    obtain ⟨rfl, rfl⟩ := h
    exact ⟨Try.f88, hi88, Try.func88, t88⟩
  · simp only [Option.some.injEq, Prod.mk.injEq] at h
    obtain ⟨rfl, rfl⟩ := h
    exact ⟨Try.f33, hi33, Try.func33, t33⟩
  · simp only [Option.some.injEq, Prod.mk.injEq] at h
    obtain ⟨rfl, rfl⟩ := h
    exact ⟨Try.f157, hi157, Try.func157, t157⟩
  · simp only [Option.some.injEq, Prod.mk.injEq] at h
    obtain ⟨rfl, rfl⟩ := h
    exact ⟨Try.f94, hi94, Try.func94, t94⟩
  · simp only [Option.some.injEq, Prod.mk.injEq] at h
    obtain ⟨rfl, rfl⟩ := h
    exact ⟨Try.f36, hi36, Try.func36, t36⟩
  · simp only [Option.some.injEq, Prod.mk.injEq] at h
    obtain ⟨rfl, rfl⟩ := h
    exact ⟨Try.f149, hi149, Try.func149, t149⟩
  · simp only [Option.some.injEq, Prod.mk.injEq] at h
    obtain ⟨rfl, rfl⟩ := h
    exact ⟨Try.f90, hi90, Try.func90, t90⟩
  · simp only [Option.some.injEq, Prod.mk.injEq] at h
    obtain ⟨rfl, rfl⟩ := h
    exact ⟨Try.f34, hi34, Try.func34, t34⟩
  · simp only [Option.some.injEq, Prod.mk.injEq] at h
    obtain ⟨rfl, rfl⟩ := h
    exact ⟨Try.f8, hi8, Try.func8, t8⟩
  · cases h
theorem con (N k f : Nat) (s : Sig) (h : shapes Sn T f = some s) : Con Try.prog (Lv N k) f s := level_con (by kernel_rfl) nat tab k f s h
end Go.Proofs.Ytecleaangfcloaa.VtFnExactWant
