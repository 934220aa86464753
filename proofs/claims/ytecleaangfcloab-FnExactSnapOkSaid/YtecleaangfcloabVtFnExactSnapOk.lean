/- The functions that FnExactSnapOk reaches, as texts of the language of values, and that these are what the code says. Definitions and lemmas, no statement. -/
import Derived.Test.YtecleaangfcloabProg
import Derived.Test.YtecleaangfcloabVmNat
import Derived.KernelRfl
import Derived.WalkKit
import Derived.Tactics
namespace Go.Proofs.Ytecleaangfcloab.VtFnExactSnapOk
open Go.Vm Go.RowKit
set_option maxRecDepth 100000
set_option linter.unusedVariables false
set_option linter.unusedSimpArgs false
/- loop.example/g00365/laws.eqReply -/
def sg167 : Sig := ⟨[.val, .val], [(.bool, .sh)], false⟩
def hi167 : Hints := []
def ir167 : IR := (.letE ⟨(.all 2), [(.var 0)]⟩
 (.letE ⟨(.all 2), [(.var 1)]⟩
 (.letE ⟨(.bin .neq 3), [(.fld (.var 2) 0), (.fld (.var 3) 0)]⟩
 (.ite (.var 4)
 (.ret [(.bool false)])
 (.letE ⟨(.bin .neq 3), [(.fld (.var 2) 1), (.fld (.var 3) 1)]⟩
 (.ite (.var 5)
 (.ret [(.bool false)])
 (.ret [(.bool true)])))))))
/- loop.example/g00365/laws.eqLast -/
def sg151 : Sig := ⟨[.val, .val], [(.bool, .sh)], false⟩
def hi151 : Hints := []
def ir151 : IR := (.letE ⟨(.all 4), [(.var 0)]⟩
 (.letE ⟨(.all 4), [(.var 1)]⟩
 (.letE ⟨(.bin .neq 3), [(.fld (.var 2) 0), (.fld (.var 3) 0)]⟩
 (.ite (.var 4)
 (.ret [(.bool false)])
 (.letE ⟨(.bin .neq 3), [(.fld (.var 2) 1), (.fld (.var 3) 1)]⟩
 (.ite (.var 5)
 (.ret [(.bool false)])
 (.letE ⟨.mk, [(.fld (.var 2) 2), (.fld (.var 2) 3)]⟩
 (.letE ⟨.mk, [(.fld (.var 3) 2), (.fld (.var 3) 3)]⟩
 (.call 167 [(.var 6), (.var 7)] 1
 (.letE ⟨(.un .not), [(.var 8)]⟩
 (.ite (.var 9)
 (.ret [(.bool false)])
 (.ret [(.bool true)]))))))))))))
/- loop.example/g00365/laws.eqLastS -/
def sg88 : Sig := ⟨[.val, .val], [(.bool, .sh)], false⟩
def hi88 : Hints := [((0, 4), ⟨[(4, .sh), (5, .sh)], [], []⟩)]
def ir88 : IR := (.letE ⟨.len, [(.var 0)]⟩
 (.letE ⟨.len, [(.var 1)]⟩
 (.letE ⟨(.bin .neq 3), [(.var 2), (.var 3)]⟩
 (.ite (.var 4)
 (.ret [(.bool false)])
 (.label true
 (.letE ⟨.len, [(.var 0)]⟩
 (.letE ⟨(.bin .lss 3), [(.var 6), (.var 7)]⟩
 (.ite (.var 8)
 (.letE ⟨(.idx 4), [(.var 0), (.var 6)]⟩
 (.letE ⟨(.cells 0 4), [(.var 9)]⟩
 (.letE ⟨(.idx 4), [(.var 1), (.var 6)]⟩
 (.letE ⟨(.cells 0 4), [(.var 11)]⟩
 (.call 151 [(.var 10), (.var 12)] 1
 (.letE ⟨(.un .not), [(.var 13)]⟩
 (.ite (.var 14)
 (.ret [(.bool false)])
 (.letE ⟨(.bin .add 3), [(.var 6), (.int .i64 (1))]⟩
 (.jump 0 [(.var 5), (.var 15)])))))))))
 (.ret [(.bool true)]))))
 (.jump 0 [(.bool false), (.int .i64 (0))]))))))
/- loop.example/g00365/laws.eqSession -/
def sg150 : Sig := ⟨[.val, .val], [(.bool, .sh)], false⟩
def hi150 : Hints := []
def ir150 : IR := (.letE ⟨(.all 2), [(.var 0)]⟩
 (.letE ⟨(.all 2), [(.var 1)]⟩
 (.letE ⟨(.bin .neq 3), [(.fld (.var 2) 0), (.fld (.var 3) 0)]⟩
 (.ite (.var 4)
 (.ret [(.bool false)])
 (.letE ⟨(.beq true), [(.fld (.var 2) 1), (.fld (.var 3) 1)]⟩
 (.ite (.var 5)
 (.ret [(.bool false)])
 (.ret [(.bool true)])))))))
/- loop.example/g00365/laws.eqSessionS -/
def sg87 : Sig := ⟨[.val, .val], [(.bool, .sh)], false⟩
def hi87 : Hints := [((0, 4), ⟨[(4, .sh), (5, .sh)], [], []⟩)]
def ir87 : IR := (.letE ⟨.len, [(.var 0)]⟩
 (.letE ⟨.len, [(.var 1)]⟩
 (.letE ⟨(.bin .neq 3), [(.var 2), (.var 3)]⟩
 (.ite (.var 4)
 (.ret [(.bool false)])
 (.label true
 (.letE ⟨.len, [(.var 0)]⟩
 (.letE ⟨(.bin .lss 3), [(.var 6), (.var 7)]⟩
 (.ite (.var 8)
 (.letE ⟨(.idx 2), [(.var 0), (.var 6)]⟩
 (.letE ⟨(.cells 0 2), [(.var 9)]⟩
 (.letE ⟨(.idx 2), [(.var 1), (.var 6)]⟩
 (.letE ⟨(.cells 0 2), [(.var 11)]⟩
 (.call 150 [(.var 10), (.var 12)] 1
 (.letE ⟨(.un .not), [(.var 13)]⟩
 (.ite (.var 14)
 (.ret [(.bool false)])
 (.letE ⟨(.bin .add 3), [(.var 6), (.int .i64 (1))]⟩
 (.jump 0 [(.var 5), (.var 15)])))))))))
 (.ret [(.bool true)]))))
 (.jump 0 [(.bool false), (.int .i64 (0))]))))))
/- loop.example/g00365/laws.eqByteS -/
def sg13 : Sig := ⟨[.val, .val], [(.bool, .sh)], false⟩
def hi13 : Hints := [((0, 4), ⟨[(4, .sh), (5, .sh)], [], []⟩)]
def ir13 : IR := (.letE ⟨.len, [(.var 0)]⟩
 (.letE ⟨.len, [(.var 1)]⟩
 (.letE ⟨(.bin .neq 3), [(.var 2), (.var 3)]⟩
 (.ite (.var 4)
 (.ret [(.bool false)])
 (.label true
 (.letE ⟨.len, [(.var 0)]⟩
 (.letE ⟨(.bin .lss 3), [(.var 6), (.var 7)]⟩
 (.ite (.var 8)
 (.letE ⟨(.idx 1), [(.var 0), (.var 6)]⟩
 (.letE ⟨.a, [(.fld (.var 9) 0)]⟩
 (.letE ⟨(.idx 1), [(.var 1), (.var 6)]⟩
 (.letE ⟨.a, [(.fld (.var 11) 0)]⟩
 (.letE ⟨(.bin .neq 5), [(.var 10), (.var 12)]⟩
 (.ite (.var 13)
 (.ret [(.bool false)])
 (.letE ⟨(.bin .add 3), [(.var 6), (.int .i64 (1))]⟩
 (.jump 0 [(.var 5), (.var 14)]))))))))
 (.ret [(.bool true)]))))
 (.jump 0 [(.bool false), (.int .i64 (0))]))))))
/- loop.example/g00365/laws.eqRow -/
def sg148 : Sig := ⟨[.val, .val], [(.bool, .sh)], false⟩
def hi148 : Hints := []
def ir148 : IR := (.letE ⟨(.all 4), [(.var 0)]⟩
 (.letE ⟨(.all 4), [(.var 1)]⟩
 (.call 13 [(.fld (.var 2) 0), (.fld (.var 3) 0)] 1
 (.letE ⟨(.un .not), [(.var 4)]⟩
 (.ite (.var 5)
 (.ret [(.bool false)])
 (.call 13 [(.fld (.var 2) 1), (.fld (.var 3) 1)] 1
 (.letE ⟨(.un .not), [(.var 6)]⟩
 (.ite (.var 7)
 (.ret [(.bool false)])
 (.letE ⟨(.bin .neq 3), [(.fld (.var 2) 2), (.fld (.var 3) 2)]⟩
 (.ite (.var 8)
 (.ret [(.bool false)])
 (.letE ⟨(.bin .neq 3), [(.fld (.var 2) 3), (.fld (.var 3) 3)]⟩
 (.ite (.var 9)
 (.ret [(.bool false)])
 (.ret [(.bool true)])))))))))))))
/- loop.example/g00365/laws.eqRowS -/
def sg85 : Sig := ⟨[.val, .val], [(.bool, .sh)], false⟩
def hi85 : Hints := [((0, 4), ⟨[(4, .sh), (5, .sh)], [], []⟩)]
def ir85 : IR := (.letE ⟨.len, [(.var 0)]⟩
 (.letE ⟨.len, [(.var 1)]⟩
 (.letE ⟨(.bin .neq 3), [(.var 2), (.var 3)]⟩
 (.ite (.var 4)
 (.ret [(.bool false)])
 (.label true
 (.letE ⟨.len, [(.var 0)]⟩
 (.letE ⟨(.bin .lss 3), [(.var 6), (.var 7)]⟩
 (.ite (.var 8)
 (.letE ⟨(.idx 4), [(.var 0), (.var 6)]⟩
 (.letE ⟨(.cells 0 4), [(.var 9)]⟩
 (.letE ⟨(.idx 4), [(.var 1), (.var 6)]⟩
 (.letE ⟨(.cells 0 4), [(.var 11)]⟩
 (.call 148 [(.var 10), (.var 12)] 1
 (.letE ⟨(.un .not), [(.var 13)]⟩
 (.ite (.var 14)
 (.ret [(.bool false)])
 (.letE ⟨(.bin .add 3), [(.var 6), (.int .i64 (1))]⟩
 (.jump 0 [(.var 5), (.var 15)])))))))))
 (.ret [(.bool true)]))))
 (.jump 0 [(.bool false), (.int .i64 (0))]))))))
/- loop.example/g00365/impl.noOp -/
def sg143 : Sig := ⟨[], [((.pair (.int .i64) (.pair (.int .i64) (.pair (.int .i64) (.pair (.sl (.int .u8)) (.pair (.sl (.int .u8)) (.pair (.int .i64) .unit)))))), (.pair .sh (.pair .sh (.pair .sh (.pair (.own .sh) (.pair (.own .sh) .sh))))))], false⟩
def hi143 : Hints := []
def ir143 : IR := (.letE ⟨.atom, [(.int .i64 (-1))]⟩
 (.letE ⟨.mk, [(.var 0), (.int .i64 (0)), (.int .i64 (0)), (.nil (.int .u8)), (.nil (.int .u8)), (.int .i64 (0))]⟩
 (.letE ⟨(.all 6), [(.var 1)]⟩
 (.letE ⟨.mk, [(.fld (.var 2) 0), (.fld (.var 2) 1), (.fld (.var 2) 2), (.fld (.var 2) 3), (.fld (.var 2) 4), (.fld (.var 2) 5)]⟩
 (.ret [(.var 3)])))))
/- bytes.Equal -/
def sg69 : Sig := ⟨[.val, .val], [(.bool, .sh)], false⟩
def hi69 : Hints := []
def ir69 : IR := (.letE ⟨.text, [(.var 0)]⟩
 (.letE ⟨.text, [(.var 1)]⟩
 (.letE ⟨(.bin .eql 9), [(.var 2), (.var 3)]⟩
 (.ret [(.var 4)]))))
/- (loop.example/g00365/impl.State).tomb$1 -/
def sg121 : Sig := ⟨[.val, .rd], [(.bool, .sh)], false⟩
def hi121 : Hints := []
def ir121 : IR := (.letE ⟨(.all 2), [(.var 0)]⟩
 (.letE ⟨.a, [(.fld (.var 1) 0)]⟩
 (.call 69 [(.fld (.var 2) 0), (.var 3)] 1
 (.ret [(.var 4)]))))
/- (loop.example/g00365/impl.State).row$1 -/
def sg119 : Sig := ⟨[.val, .val], [((.int .i64), .sh)], false⟩
def hi119 : Hints := []
def ir119 : IR := (.letE ⟨(.all 4), [(.var 0)]⟩
 (.call 63 [(.fld (.var 2) 0), (.var 1)] 1
 (.ret [(.var 3)])))
/- slices.BinarySearchFunc[[]loop.example/g00365/impl.Row,loop.example/g00365/impl.Row,[]byte] -/
def sg118 : Sig := ⟨[.val, .val, (.fn 119 0)], [((.int .i64), .sh), (.bool, .sh)], false⟩
def hi118 : Hints := [((0, 3), ⟨[(9, .sh), (10, .sh)], [], []⟩)]
def ir118 : IR := (.letE ⟨.len, [(.var 0)]⟩
 (.label true
 (.letE ⟨(.bin .lss 3), [(.var 3), (.var 4)]⟩
 (.ite (.var 5)
 (.letE ⟨(.bin .add 3), [(.var 3), (.var 4)]⟩
 (.letE ⟨(.conv .u64), [(.var 6)]⟩
 (.letE ⟨(.bin .shr 197), [(.var 7), (.int .u64 (1))]⟩
 (.letE ⟨(.conv .i64), [(.var 8)]⟩
 (.letE ⟨(.idx 4), [(.var 0), (.var 9)]⟩
 (.letE ⟨(.cells 0 4), [(.var 10)]⟩
 (.call 119 [(.var 11), (.var 1)] 1
 (.letE ⟨(.bin .lss 3), [(.var 12), (.int .i64 (0))]⟩
 (.ite (.var 13)
 (.letE ⟨(.bin .add 3), [(.var 9), (.int .i64 (1))]⟩
 (.jump 0 [(.var 14), (.var 4)]))
 (.jump 0 [(.var 3), (.var 9)]))))))))))
 (.letE ⟨(.bin .lss 3), [(.var 3), (.var 2)]⟩
 (.ite (.var 6)
 (.letE ⟨(.idx 4), [(.var 0), (.var 3)]⟩
 (.letE ⟨(.cells 0 4), [(.var 7)]⟩
 (.call 119 [(.var 8), (.var 1)] 1
 (.letE ⟨(.bin .eql 3), [(.var 9), (.int .i64 (0))]⟩
 (.ret [(.var 3), (.var 10)])))))
 (.ret [(.var 3), (.bool false)])))))
 (.jump 0 [(.int .i64 (0)), (.var 2)])))
/- (loop.example/g00365/impl.State).row -/
def sg64 : Sig := ⟨[.val, .val], [((.int .i64), .sh), (.bool, .sh)], false⟩
def hi64 : Hints := []
def ir64 : IR := (.letE ⟨(.all 6), [(.var 0)]⟩
 (.call 118 [(.fld (.var 2) 1), (.var 1)] 2
 (.ret [(.var 3), (.var 4)])))
/- (loop.example/g00365/impl.State).session$1 -/
def sg116 : Sig := ⟨[.val, .rd], [(.bool, .sh)], false⟩
def hi116 : Hints := []
def ir116 : IR := (.letE ⟨(.all 2), [(.var 0)]⟩
 (.letE ⟨.a, [(.fld (.var 1) 0)]⟩
 (.letE ⟨(.bin .eql 3), [(.fld (.var 2) 0), (.var 3)]⟩
 (.ret [(.var 4)]))))
/- loop.example/g00365/impl.isValue -/
def sg61 : Sig := ⟨[.val], [(.bool, .sh)], false⟩
def hi61 : Hints := []
def ir61 : IR := (.letE ⟨.len, [(.var 0)]⟩
 (.letE ⟨(.bin .leq 3), [(.var 1), (.int .i64 (20))]⟩
 (.ret [(.var 2)])))
/- loop.example/g00365/impl.within -/
def sg41 : Sig := ⟨[.val, .val, .val], [(.bool, .sh)], false⟩
def hi41 : Hints := []
def ir41 : IR := (.letE ⟨(.bin .leq 3), [(.var 1), (.var 0)]⟩
 (.ite (.var 3)
 (.letE ⟨(.bin .leq 3), [(.var 0), (.var 2)]⟩
 (.ret [(.var 4)]))
 (.ret [(.bool false)])))
/- loop.example/g00365/spec.l2tomb -/
def sg59 : Sig := ⟨[.val, .val], [((.int .i64), .sh)], false⟩
def hi59 : Hints := [((0, 2), ⟨[(4, .sh), (5, .sh)], [], []⟩)]
def ir59 : IR := (.letE ⟨(.all 6), [(.var 0)]⟩
 (.label true
 (.letE ⟨.len, [(.fld (.var 2) 2)]⟩
 (.letE ⟨(.bin .lss 3), [(.var 4), (.var 5)]⟩
 (.ite (.var 6)
 (.letE ⟨(.idx 2), [(.fld (.var 2) 2), (.var 4)]⟩
 (.letE ⟨.a, [(.fld (.var 7) 0)]⟩
 (.letE ⟨.text, [(.var 8)]⟩
 (.letE ⟨.text, [(.var 1)]⟩
 (.letE ⟨(.bin .eql 9), [(.var 9), (.var 10)]⟩
 (.ite (.var 11)
 (.ret [(.var 4)])
 (.letE ⟨(.bin .add 3), [(.var 4), (.int .i64 (1))]⟩
 (.jump 0 [(.var 3), (.var 12)]))))))))
 (.ret [(.int .i64 (-1))]))))
 (.jump 0 [(.int .i64 (0)), (.int .i64 (0))])))
/- loop.example/g00365/spec.l2row -/
def sg58 : Sig := ⟨[.val, .val], [((.int .i64), .sh)], false⟩
def hi58 : Hints := [((0, 2), ⟨[(4, .sh), (5, .sh)], [], []⟩)]
def ir58 : IR := (.letE ⟨(.all 6), [(.var 0)]⟩
 (.label true
 (.letE ⟨.len, [(.fld (.var 2) 1)]⟩
 (.letE ⟨(.bin .lss 3), [(.var 4), (.var 5)]⟩
 (.ite (.var 6)
 (.letE ⟨(.idx 4), [(.fld (.var 2) 1), (.var 4)]⟩
 (.letE ⟨.a, [(.fld (.var 7) 0)]⟩
 (.letE ⟨.text, [(.var 8)]⟩
 (.letE ⟨.text, [(.var 1)]⟩
 (.letE ⟨(.bin .eql 9), [(.var 9), (.var 10)]⟩
 (.ite (.var 11)
 (.ret [(.var 4)])
 (.letE ⟨(.bin .add 3), [(.var 4), (.int .i64 (1))]⟩
 (.jump 0 [(.var 3), (.var 12)]))))))))
 (.ret [(.int .i64 (-1))]))))
 (.jump 0 [(.int .i64 (0)), (.int .i64 (0))])))
/- loop.example/g00365/spec.l2sess -/
def sg57 : Sig := ⟨[.val, .val], [((.int .i64), .sh)], false⟩
def hi57 : Hints := [((0, 2), ⟨[(4, .sh), (5, .sh)], [], []⟩)]
def ir57 : IR := (.letE ⟨(.all 6), [(.var 0)]⟩
 (.label true
 (.letE ⟨.len, [(.fld (.var 2) 4)]⟩
 (.letE ⟨(.bin .lss 3), [(.var 4), (.var 5)]⟩
 (.ite (.var 6)
 (.letE ⟨(.idx 2), [(.fld (.var 2) 4), (.var 4)]⟩
 (.letE ⟨.a, [(.fld (.var 7) 0)]⟩
 (.letE ⟨(.bin .eql 3), [(.var 8), (.var 1)]⟩
 (.ite (.var 9)
 (.ret [(.var 4)])
 (.letE ⟨(.bin .add 3), [(.var 4), (.int .i64 (1))]⟩
 (.jump 0 [(.var 3), (.var 10)]))))))
 (.ret [(.int .i64 (-1))]))))
 (.jump 0 [(.int .i64 (0)), (.int .i64 (0))])))
/- loop.example/g00365/spec.l2val -/
def sg56 : Sig := ⟨[.val], [(.bool, .sh)], false⟩
def hi56 : Hints := []
def ir56 : IR := (.letE ⟨.len, [(.var 0)]⟩
 (.letE ⟨(.bin .leq 3), [(.var 1), (.int .i64 (20))]⟩
 (.ret [(.var 2)])))
/- loop.example/g00365/spec.l2key -/
def sg55 : Sig := ⟨[.val], [(.bool, .sh)], false⟩
def hi55 : Hints := [((0, 4), ⟨[(2, .sh), (3, .sh)], [], []⟩)]
def ir55 : IR := (.letE ⟨.len, [(.var 0)]⟩
 (.letE ⟨(.bin .lss 3), [(.var 1), (.int .i64 (1))]⟩
 (.ite (.var 2)
 (.ret [(.bool false)])
 (.letE ⟨.len, [(.var 0)]⟩
 (.letE ⟨(.bin .gtr 3), [(.var 3), (.int .i64 (20))]⟩
 (.ite (.var 4)
 (.ret [(.bool false)])
 (.label true
 (.letE ⟨.len, [(.var 0)]⟩
 (.letE ⟨(.bin .lss 3), [(.var 6), (.var 7)]⟩
 (.ite (.var 8)
 (.letE ⟨(.idx 1), [(.var 0), (.var 6)]⟩
 (.letE ⟨.a, [(.fld (.var 9) 0)]⟩
 (.letE ⟨(.bin .lss 5), [(.var 10), (.int .u8 (97))]⟩
 (.ite (.var 11)
 (.letE ⟨(.idx 1), [(.var 0), (.var 6)]⟩
 (.letE ⟨.a, [(.fld (.var 12) 0)]⟩
 (.letE ⟨(.bin .neq 5), [(.var 13), (.int .u8 (47))]⟩
 (.ite (.var 14)
 (.ret [(.bool false)])
 (.letE ⟨(.bin .add 3), [(.var 6), (.int .i64 (1))]⟩
 (.jump 0 [(.var 5), (.var 15)]))))))
 (.letE ⟨(.idx 1), [(.var 0), (.var 6)]⟩
 (.letE ⟨.a, [(.fld (.var 12) 0)]⟩
 (.letE ⟨(.bin .gtr 5), [(.var 13), (.int .u8 (122))]⟩
 (.ite (.var 14)
 (.letE ⟨(.idx 1), [(.var 0), (.var 6)]⟩
 (.letE ⟨.a, [(.fld (.var 15) 0)]⟩
 (.letE ⟨(.bin .neq 5), [(.var 16), (.int .u8 (47))]⟩
 (.ite (.var 17)
 (.ret [(.bool false)])
 (.letE ⟨(.bin .add 3), [(.var 6), (.int .i64 (1))]⟩
 (.jump 0 [(.var 5), (.var 18)]))))))
 (.letE ⟨(.bin .add 3), [(.var 6), (.int .i64 (1))]⟩
 (.jump 0 [(.var 5), (.var 15)]))))))))))
 (.ret [(.bool true)]))))
 (.jump 0 [(.bool false), (.int .i64 (0))]))))))))
/- loop.example/g00365/spec.l2index -/
def sg54 : Sig := ⟨[.val], [(.bool, .sh)], false⟩
def hi54 : Hints := []
def ir54 : IR := (.letE ⟨(.bin .geq 3), [(.var 0), (.int .i64 (0))]⟩
 (.ite (.var 1)
 (.letE ⟨(.bin .leq 3), [(.var 0), (.int .i64 (1000000))]⟩
 (.ret [(.var 2)]))
 (.ret [(.bool false)])))
/- loop.example/g00365/spec.StateOk -/
def sg19 : Sig := ⟨[.val], [(.bool, .sh)], false⟩
def hi19 : Hints := [((0, 21), ⟨[(2, .sh), (8, .sh)], [], []⟩), ((0, 16), ⟨[(2, .sh), (7, .sh)], [], []⟩), ((0, 10), ⟨[(2, .sh), (5, .sh)], [], []⟩), ((0, 4), ⟨[(2, .sh), (3, .sh)], [], []⟩)]
def ir19 : IR := (.letE ⟨(.all 6), [(.var 0)]⟩
 (.call 54 [(.fld (.var 1) 0)] 1
 (.letE ⟨(.un .not), [(.var 2)]⟩
 (.ite (.var 3)
 (.ret [(.bool false)])
 (.letE ⟨.len, [(.fld (.var 1) 1)]⟩
 (.letE ⟨(.bin .gtr 3), [(.var 4), (.int .i64 (20))]⟩
 (.ite (.var 5)
 (.ret [(.bool false)])
 (.letE ⟨.len, [(.fld (.var 1) 2)]⟩
 (.letE ⟨(.bin .gtr 3), [(.var 6), (.int .i64 (10))]⟩
 (.ite (.var 7)
 (.ret [(.bool false)])
 (.letE ⟨(.bin .lss 3), [(.fld (.var 1) 3), (.int .i64 (0))]⟩
 (.ite (.var 8)
 (.ret [(.bool false)])
 (.letE ⟨(.bin .gtr 3), [(.fld (.var 1) 3), (.fld (.var 1) 0)]⟩
 (.ite (.var 9)
 (.ret [(.bool false)])
 (.letE ⟨.len, [(.fld (.var 1) 4)]⟩
 (.letE ⟨(.bin .gtr 3), [(.var 10), (.int .i64 (8))]⟩
 (.ite (.var 11)
 (.ret [(.bool false)])
 (.letE ⟨.len, [(.fld (.var 1) 5)]⟩
 (.letE ⟨(.bin .gtr 3), [(.var 12), (.int .i64 (4))]⟩
 (.ite (.var 13)
 (.ret [(.bool false)])
 (.label true
 (.letE ⟨.len, [(.fld (.var 1) 1)]⟩
 (.letE ⟨(.bin .lss 3), [(.var 15), (.var 16)]⟩
 (.ite (.var 17)
 (.letE ⟨(.idx 4), [(.fld (.var 1) 1), (.var 15)]⟩
 (.letE ⟨(.cells 0 4), [(.var 18)]⟩
 (.letE ⟨(.all 4), [(.var 19)]⟩
 (.call 55 [(.fld (.var 20) 0)] 1
 (.letE ⟨(.un .not), [(.var 21)]⟩
 (.ite (.var 22)
 (.ret [(.bool false)])
 (.call 56 [(.fld (.var 20) 1)] 1
 (.letE ⟨(.un .not), [(.var 23)]⟩
 (.ite (.var 24)
 (.ret [(.bool false)])
 (.letE ⟨(.bin .lss 3), [(.fld (.var 20) 2), (.int .i64 (1))]⟩
 (.ite (.var 25)
 (.ret [(.bool false)])
 (.letE ⟨(.bin .gtr 3), [(.fld (.var 20) 2), (.fld (.var 1) 0)]⟩
 (.ite (.var 26)
 (.ret [(.bool false)])
 (.letE ⟨(.bin .neq 3), [(.fld (.var 20) 3), (.int .i64 (0))]⟩
 (.ite (.var 27)
 (.letE ⟨.mk, [(.fld (.var 1) 0), (.fld (.var 1) 1), (.fld (.var 1) 2), (.fld (.var 1) 3), (.fld (.var 1) 4), (.fld (.var 1) 5)]⟩
 (.call 57 [(.var 28), (.fld (.var 20) 3)] 1
 (.letE ⟨(.bin .lss 3), [(.var 29), (.int .i64 (0))]⟩
 (.ite (.var 30)
 (.ret [(.bool false)])
 (.letE ⟨(.bin .gtr 3), [(.var 15), (.int .i64 (0))]⟩
 (.ite (.var 31)
 (.letE ⟨(.bin .sub 3), [(.var 15), (.int .i64 (1))]⟩
 (.letE ⟨(.idx 4), [(.fld (.var 1) 1), (.var 32)]⟩
 (.letE ⟨.a, [(.fld (.var 33) 0)]⟩
 (.letE ⟨.text, [(.var 34)]⟩
 (.letE ⟨.text, [(.fld (.var 20) 0)]⟩
 (.letE ⟨(.bin .geq 9), [(.var 35), (.var 36)]⟩
 (.ite (.var 37)
 (.ret [(.bool false)])
 (.letE ⟨(.bin .add 3), [(.var 15), (.int .i64 (1))]⟩
 (.jump 0 [(.var 14), (.var 38)])))))))))
 (.letE ⟨(.bin .add 3), [(.var 15), (.int .i64 (1))]⟩
 (.jump 0 [(.var 14), (.var 32)]))))))))
 (.letE ⟨(.bin .gtr 3), [(.var 15), (.int .i64 (0))]⟩
 (.ite (.var 28)
 (.letE ⟨(.bin .sub 3), [(.var 15), (.int .i64 (1))]⟩
 (.letE ⟨(.idx 4), [(.fld (.var 1) 1), (.var 29)]⟩
 (.letE ⟨.a, [(.fld (.var 30) 0)]⟩
 (.letE ⟨.text, [(.var 31)]⟩
 (.letE ⟨.text, [(.fld (.var 20) 0)]⟩
 (.letE ⟨(.bin .geq 9), [(.var 32), (.var 33)]⟩
 (.ite (.var 34)
 (.ret [(.bool false)])
 (.letE ⟨(.bin .add 3), [(.var 15), (.int .i64 (1))]⟩
 (.jump 0 [(.var 14), (.var 35)])))))))))
 (.letE ⟨(.bin .add 3), [(.var 15), (.int .i64 (1))]⟩
 (.jump 0 [(.var 14), (.var 29)])))))))))))))))))))
 (.label true
 (.letE ⟨.len, [(.fld (.var 1) 2)]⟩
 (.letE ⟨(.bin .lss 3), [(.var 19), (.var 20)]⟩
 (.ite (.var 21)
 (.letE ⟨(.idx 2), [(.fld (.var 1) 2), (.var 19)]⟩
 (.letE ⟨(.cells 0 2), [(.var 22)]⟩
 (.letE ⟨(.all 2), [(.var 23)]⟩
 (.call 55 [(.fld (.var 24) 0)] 1
 (.letE ⟨(.un .not), [(.var 25)]⟩
 (.ite (.var 26)
 (.ret [(.bool false)])
 (.letE ⟨.mk, [(.fld (.var 1) 0), (.fld (.var 1) 1), (.fld (.var 1) 2), (.fld (.var 1) 3), (.fld (.var 1) 4), (.fld (.var 1) 5)]⟩
 (.call 58 [(.var 27), (.fld (.var 24) 0)] 1
 (.letE ⟨(.bin .geq 3), [(.var 28), (.int .i64 (0))]⟩
 (.ite (.var 29)
 (.ret [(.bool false)])
 (.letE ⟨.mk, [(.fld (.var 1) 0), (.fld (.var 1) 1), (.fld (.var 1) 2), (.fld (.var 1) 3), (.fld (.var 1) 4), (.fld (.var 1) 5)]⟩
 (.call 59 [(.var 30), (.fld (.var 24) 0)] 1
 (.letE ⟨(.bin .neq 3), [(.var 31), (.var 19)]⟩
 (.ite (.var 32)
 (.ret [(.bool false)])
 (.letE ⟨(.bin .lss 3), [(.fld (.var 24) 1), (.int .i64 (1))]⟩
 (.ite (.var 33)
 (.ret [(.bool false)])
 (.letE ⟨(.bin .gtr 3), [(.fld (.var 24) 1), (.fld (.var 1) 0)]⟩
 (.ite (.var 34)
 (.ret [(.bool false)])
 (.letE ⟨(.bin .lss 3), [(.fld (.var 24) 1), (.fld (.var 1) 3)]⟩
 (.ite (.var 35)
 (.ret [(.bool false)])
 (.letE ⟨(.bin .gtr 3), [(.var 19), (.int .i64 (0))]⟩
 (.ite (.var 36)
 (.letE ⟨(.bin .sub 3), [(.var 19), (.int .i64 (1))]⟩
 (.letE ⟨(.idx 2), [(.fld (.var 1) 2), (.var 37)]⟩
 (.letE ⟨.a, [(.fld (.var 38) 1)]⟩
 (.letE ⟨(.bin .gtr 3), [(.var 39), (.fld (.var 24) 1)]⟩
 (.ite (.var 40)
 (.ret [(.bool false)])
 (.letE ⟨(.bin .add 3), [(.var 19), (.int .i64 (1))]⟩
 (.jump 1 [(.var 18), (.var 41)])))))))
 (.letE ⟨(.bin .add 3), [(.var 19), (.int .i64 (1))]⟩
 (.jump 1 [(.var 18), (.var 37)]))))))))))))))))))))))))
 (.label true
 (.letE ⟨.len, [(.fld (.var 1) 4)]⟩
 (.letE ⟨(.bin .lss 3), [(.var 23), (.var 24)]⟩
 (.ite (.var 25)
 (.letE ⟨(.idx 2), [(.fld (.var 1) 4), (.var 23)]⟩
 (.letE ⟨.a, [(.fld (.var 26) 0)]⟩
 (.letE ⟨(.bin .lss 3), [(.var 27), (.int .i64 (1))]⟩
 (.ite (.var 28)
 (.ret [(.bool false)])
 (.letE ⟨(.idx 2), [(.fld (.var 1) 4), (.var 23)]⟩
 (.letE ⟨.a, [(.fld (.var 29) 0)]⟩
 (.letE ⟨(.bin .gtr 3), [(.var 30), (.fld (.var 1) 0)]⟩
 (.ite (.var 31)
 (.ret [(.bool false)])
 (.letE ⟨(.bin .gtr 3), [(.var 23), (.int .i64 (0))]⟩
 (.ite (.var 32)
 (.letE ⟨(.bin .sub 3), [(.var 23), (.int .i64 (1))]⟩
 (.letE ⟨(.idx 2), [(.fld (.var 1) 4), (.var 33)]⟩
 (.letE ⟨.a, [(.fld (.var 34) 0)]⟩
 (.letE ⟨(.idx 2), [(.fld (.var 1) 4), (.var 23)]⟩
 (.letE ⟨.a, [(.fld (.var 36) 0)]⟩
 (.letE ⟨(.bin .geq 3), [(.var 35), (.var 37)]⟩
 (.ite (.var 38)
 (.ret [(.bool false)])
 (.letE ⟨(.bin .add 3), [(.var 23), (.int .i64 (1))]⟩
 (.jump 2 [(.var 22), (.var 39)])))))))))
 (.letE ⟨(.bin .add 3), [(.var 23), (.int .i64 (1))]⟩
 (.jump 2 [(.var 22), (.var 33)]))))))))))))
 (.label true
 (.letE ⟨.len, [(.fld (.var 1) 5)]⟩
 (.letE ⟨(.bin .lss 3), [(.var 27), (.var 28)]⟩
 (.ite (.var 29)
 (.letE ⟨(.idx 4), [(.fld (.var 1) 5), (.var 27)]⟩
 (.letE ⟨(.cells 0 4), [(.var 30)]⟩
 (.letE ⟨(.all 4), [(.var 31)]⟩
 (.letE ⟨(.bin .lss 3), [(.fld (.var 32) 0), (.int .i64 (0))]⟩
 (.ite (.var 33)
 (.ret [(.bool false)])
 (.letE ⟨(.bin .geq 3), [(.fld (.var 32) 0), (.int .i64 (4))]⟩
 (.ite (.var 34)
 (.ret [(.bool false)])
 (.letE ⟨(.bin .lss 3), [(.fld (.var 32) 1), (.int .i64 (1))]⟩
 (.ite (.var 35)
 (.ret [(.bool false)])
 (.letE ⟨(.bin .gtr 3), [(.fld (.var 32) 1), (.int .i64 (1000000))]⟩
 (.ite (.var 36)
 (.ret [(.bool false)])
 (.letE ⟨(.bin .lss 3), [(.fld (.var 32) 2), (.int .i64 (0))]⟩
 (.ite (.var 37)
 (.ret [(.bool false)])
 (.letE ⟨(.bin .gtr 3), [(.fld (.var 32) 2), (.int .i64 (5))]⟩
 (.ite (.var 38)
 (.ret [(.bool false)])
 (.letE ⟨(.bin .lss 3), [(.fld (.var 32) 3), (.int .i64 (1))]⟩
 (.ite (.var 39)
 (.ret [(.bool false)])
 (.letE ⟨(.bin .gtr 3), [(.fld (.var 32) 3), (.fld (.var 1) 0)]⟩
 (.ite (.var 40)
 (.ret [(.bool false)])
 (.letE ⟨(.bin .gtr 3), [(.var 27), (.int .i64 (0))]⟩
 (.ite (.var 41)
 (.letE ⟨(.bin .sub 3), [(.var 27), (.int .i64 (1))]⟩
 (.letE ⟨(.idx 4), [(.fld (.var 1) 5), (.var 42)]⟩
 (.letE ⟨.a, [(.fld (.var 43) 0)]⟩
 (.letE ⟨(.bin .geq 3), [(.var 44), (.fld (.var 32) 0)]⟩
 (.ite (.var 45)
 (.ret [(.bool false)])
 (.letE ⟨(.bin .add 3), [(.var 27), (.int .i64 (1))]⟩
 (.jump 3 [(.var 26), (.var 46)])))))))
 (.letE ⟨(.bin .add 3), [(.var 27), (.int .i64 (1))]⟩
 (.jump 3 [(.var 26), (.var 42)])))))))))))))))))))))))
 (.ret [(.bool true)]))))
 (.jump 3 [(.var 22), (.int .i64 (0))])))))
 (.jump 2 [(.var 18), (.int .i64 (0))])))))
 (.jump 1 [(.var 14), (.int .i64 (0))])))))
 (.jump 0 [(.bool false), (.int .i64 (0))]))))))))))))))))))))))
/- loop.example/g00365/laws.toReply -/
def sg172 : Sig := ⟨[.val], [((.pair (.int .i64) (.pair (.int .i64) .unit)), .sh)], false⟩
def hi172 : Hints := []
def ir172 : IR := (.letE ⟨(.all 2), [(.var 0)]⟩
 (.letE ⟨.atom, [(.fld (.var 1) 0)]⟩
 (.letE ⟨.atom, [(.fld (.var 1) 1)]⟩
 (.letE ⟨.mk, [(.var 2), (.var 3)]⟩
 (.letE ⟨(.all 2), [(.var 4)]⟩
 (.letE ⟨.mk, [(.fld (.var 5) 0), (.fld (.var 5) 1)]⟩
 (.ret [(.var 6)])))))))
/- loop.example/g00365/laws.toLast -/
def sg163 : Sig := ⟨[.val], [((.pair (.int .i64) (.pair (.int .i64) (.pair (.int .i64) (.pair (.int .i64) .unit)))), .sh)], false⟩
def hi163 : Hints := []
def ir163 : IR := (.letE ⟨(.all 4), [(.var 0)]⟩
 (.letE ⟨.atom, [(.fld (.var 1) 0)]⟩
 (.letE ⟨.atom, [(.fld (.var 1) 1)]⟩
 (.letE ⟨.mk, [(.fld (.var 1) 2), (.fld (.var 1) 3)]⟩
 (.call 172 [(.var 4)] 1
 (.letE ⟨(.all 2), [(.var 5)]⟩
 (.letE ⟨.mk, [(.var 2), (.var 3), (.fld (.var 6) 0), (.fld (.var 6) 1)]⟩
 (.letE ⟨(.all 4), [(.var 7)]⟩
 (.letE ⟨.mk, [(.fld (.var 8) 0), (.fld (.var 8) 1), (.fld (.var 8) 2), (.fld (.var 8) 3)]⟩
 (.ret [(.var 9)]))))))))))
/- loop.example/g00365/laws.toLastS -/
def sg139 : Sig := ⟨[.val], [((.sl (.pair (.int .i64) (.pair (.int .i64) (.pair (.int .i64) (.pair (.int .i64) .unit))))), (.own .sh))], false⟩
def hi139 : Hints := [((0, 3), ⟨[(4, .sh), (2, (.own .sh)), (3, (.own .sh))], [], []⟩)]
def ir139 : IR := (.letE ⟨.len, [(.var 0)]⟩
 (.letE ⟨.mk, [(.int .i64 (0)), (.int .i64 (0)), (.int .i64 (0)), (.int .i64 (0))]⟩
 (.letE ⟨(.rep (.pair (.int .i64) (.pair (.int .i64) (.pair (.int .i64) (.pair (.int .i64) .unit))))), [(.var 1), (.var 2)]⟩
 (.label true
 (.letE ⟨.len, [(.var 0)]⟩
 (.letE ⟨(.bin .lss 3), [(.var 4), (.var 7)]⟩
 (.ite (.var 8)
 (.letE ⟨(.idx 4), [(.var 0), (.var 4)]⟩
 (.letE ⟨(.cells 0 4), [(.var 9)]⟩
 (.call 163 [(.var 10)] 1
 (.letE ⟨(.idx 4), [(.var 6), (.var 4)]⟩
 (.letE ⟨(.setE 4), [(.var 6), (.var 4), (.var 11)]⟩
 (.letE ⟨(.bin .add 3), [(.var 4), (.int .i64 (1))]⟩
 (.jump 0 [(.var 14), (.var 5), (.var 13)])))))))
 (.ret [(.var 6)]))))
 (.jump 0 [(.int .i64 (0)), (.nil (.pair (.int .i64) (.pair (.int .i64) (.pair (.int .i64) (.pair (.int .i64) .unit))))), (.var 3)])))))
/- loop.example/g00365/laws.toSession -/
def sg162 : Sig := ⟨[.val], [((.pair (.int .i64) (.pair .bool .unit)), .sh)], false⟩
def hi162 : Hints := []
def ir162 : IR := (.letE ⟨(.all 2), [(.var 0)]⟩
 (.letE ⟨.atom, [(.fld (.var 1) 0)]⟩
 (.letE ⟨.atom, [(.fld (.var 1) 1)]⟩
 (.letE ⟨.mk, [(.var 2), (.var 3)]⟩
 (.letE ⟨(.all 2), [(.var 4)]⟩
 (.letE ⟨.mk, [(.fld (.var 5) 0), (.fld (.var 5) 1)]⟩
 (.ret [(.var 6)])))))))
/- loop.example/g00365/laws.toSessionS -/
def sg138 : Sig := ⟨[.val], [((.sl (.pair (.int .i64) (.pair .bool .unit))), (.own .sh))], false⟩
def hi138 : Hints := [((0, 3), ⟨[(4, .sh), (2, (.own .sh)), (3, (.own .sh))], [], []⟩)]
def ir138 : IR := (.letE ⟨.len, [(.var 0)]⟩
 (.letE ⟨.mk, [(.int .i64 (0)), (.bool false)]⟩
 (.letE ⟨(.rep (.pair (.int .i64) (.pair .bool .unit))), [(.var 1), (.var 2)]⟩
 (.label true
 (.letE ⟨.len, [(.var 0)]⟩
 (.letE ⟨(.bin .lss 3), [(.var 4), (.var 7)]⟩
 (.ite (.var 8)
 (.letE ⟨(.idx 2), [(.var 0), (.var 4)]⟩
 (.letE ⟨(.cells 0 2), [(.var 9)]⟩
 (.call 162 [(.var 10)] 1
 (.letE ⟨(.idx 2), [(.var 6), (.var 4)]⟩
 (.letE ⟨(.setE 2), [(.var 6), (.var 4), (.var 11)]⟩
 (.letE ⟨(.bin .add 3), [(.var 4), (.int .i64 (1))]⟩
 (.jump 0 [(.var 14), (.var 5), (.var 13)])))))))
 (.ret [(.var 6)]))))
 (.jump 0 [(.int .i64 (0)), (.nil (.pair (.int .i64) (.pair .bool .unit))), (.var 3)])))))
/- loop.example/g00365/laws.toByteS -/
def sg10 : Sig := ⟨[.val], [((.sl (.int .u8)), (.own .sh))], false⟩
def hi10 : Hints := [((0, 3), ⟨[(4, .sh), (2, (.own .sh)), (3, (.own .sh))], [], []⟩)]
def ir10 : IR := (.letE ⟨.len, [(.var 0)]⟩
 (.letE ⟨(.rep (.int .u8)), [(.var 1), (.int .u8 (0))]⟩
 (.label true
 (.letE ⟨.len, [(.var 0)]⟩
 (.letE ⟨(.bin .lss 3), [(.var 3), (.var 6)]⟩
 (.ite (.var 7)
 (.letE ⟨(.idx 1), [(.var 0), (.var 3)]⟩
 (.letE ⟨.a, [(.fld (.var 8) 0)]⟩
 (.letE ⟨(.idx 1), [(.var 5), (.var 3)]⟩
 (.letE ⟨(.setE 1), [(.var 5), (.var 3), (.var 9)]⟩
 (.letE ⟨(.bin .add 3), [(.var 3), (.int .i64 (1))]⟩
 (.jump 0 [(.var 12), (.var 4), (.var 11)]))))))
 (.ret [(.var 5)]))))
 (.jump 0 [(.int .i64 (0)), (.nil (.int .u8)), (.var 2)]))))
/- loop.example/g00365/laws.toRow -/
def sg160 : Sig := ⟨[.val], [((.pair (.sl (.int .u8)) (.pair (.sl (.int .u8)) (.pair (.int .i64) (.pair (.int .i64) .unit)))), (.pair (.own .sh) (.pair (.own .sh) .sh)))], false⟩
def hi160 : Hints := []
def ir160 : IR := (.letE ⟨(.all 4), [(.var 0)]⟩
 (.call 10 [(.fld (.var 1) 0)] 1
 (.letE ⟨.atom, [(.var 2)]⟩
 (.call 10 [(.fld (.var 1) 1)] 1
 (.letE ⟨.atom, [(.var 4)]⟩
 (.letE ⟨.atom, [(.fld (.var 1) 2)]⟩
 (.letE ⟨.atom, [(.fld (.var 1) 3)]⟩
 (.letE ⟨.mk, [(.var 3), (.var 5), (.var 6), (.var 7)]⟩
 (.letE ⟨(.all 4), [(.var 8)]⟩
 (.letE ⟨.mk, [(.fld (.var 9) 0), (.fld (.var 9) 1), (.fld (.var 9) 2), (.fld (.var 9) 3)]⟩
 (.ret [(.var 10)])))))))))))
/- loop.example/g00365/laws.toRowS -/
def sg136 : Sig := ⟨[.val], [((.sl (.pair (.sl (.int .u8)) (.pair (.sl (.int .u8)) (.pair (.int .i64) (.pair (.int .i64) .unit))))), (.own .sh))], false⟩
def hi136 : Hints := [((0, 3), ⟨[(4, .sh), (2, (.own .sh)), (3, (.own .sh))], [], []⟩)]
def ir136 : IR := (.letE ⟨.len, [(.var 0)]⟩
 (.letE ⟨.mk, [(.nil (.int .u8)), (.nil (.int .u8)), (.int .i64 (0)), (.int .i64 (0))]⟩
 (.letE ⟨(.rep (.pair (.sl (.int .u8)) (.pair (.sl (.int .u8)) (.pair (.int .i64) (.pair (.int .i64) .unit))))), [(.var 1), (.var 2)]⟩
 (.label true
 (.letE ⟨.len, [(.var 0)]⟩
 (.letE ⟨(.bin .lss 3), [(.var 4), (.var 7)]⟩
 (.ite (.var 8)
 (.letE ⟨(.idx 4), [(.var 0), (.var 4)]⟩
 (.letE ⟨(.cells 0 4), [(.var 9)]⟩
 (.call 160 [(.var 10)] 1
 (.letE ⟨(.idx 4), [(.var 6), (.var 4)]⟩
 (.letE ⟨(.setE 4), [(.var 6), (.var 4), (.var 11)]⟩
 (.letE ⟨(.bin .add 3), [(.var 4), (.int .i64 (1))]⟩
 (.jump 0 [(.var 14), (.var 5), (.var 13)])))))))
 (.ret [(.var 6)]))))
 (.jump 0 [(.int .i64 (0)), (.nil (.pair (.sl (.int .u8)) (.pair (.sl (.int .u8)) (.pair (.int .i64) (.pair (.int .i64) .unit))))), (.var 3)])))))
/- loop.example/g00365/laws.szLastS -/
def sg133 : Sig := ⟨[.val, .val], [((.int .i64), .sh)], false⟩
def hi133 : Hints := []
def ir133 : IR := (.letE ⟨.len, [(.var 0)]⟩
 (.letE ⟨(.bin .sub 3), [(.var 1), (.var 2)]⟩
 (.letE ⟨(.bin .lss 3), [(.var 3), (.int .i64 (0))]⟩
 (.ite (.var 4)
 (.ret [(.int .i64 (-1))])
 (.ret [(.var 3)])))))
/- loop.example/g00365/laws.szSessionS -/
def sg132 : Sig := ⟨[.val, .val], [((.int .i64), .sh)], false⟩
def hi132 : Hints := []
def ir132 : IR := (.letE ⟨.len, [(.var 0)]⟩
 (.letE ⟨(.bin .sub 3), [(.var 1), (.var 2)]⟩
 (.letE ⟨(.bin .lss 3), [(.var 3), (.int .i64 (0))]⟩
 (.ite (.var 4)
 (.ret [(.int .i64 (-1))])
 (.ret [(.var 3)])))))
/- loop.example/g00365/laws.szByteS -/
def sg34 : Sig := ⟨[.val, .val], [((.int .i64), .sh)], false⟩
def hi34 : Hints := []
def ir34 : IR := (.letE ⟨.len, [(.var 0)]⟩
 (.letE ⟨(.bin .sub 3), [(.var 1), (.var 2)]⟩
 (.letE ⟨(.bin .lss 3), [(.var 3), (.int .i64 (0))]⟩
 (.ite (.var 4)
 (.ret [(.int .i64 (-1))])
 (.ret [(.var 3)])))))
/- loop.example/g00365/laws.szRow -/
def sg157 : Sig := ⟨[.val, .val], [((.int .i64), .sh)], false⟩
def hi157 : Hints := []
def ir157 : IR := (.letE ⟨(.all 4), [(.var 0)]⟩
 (.call 34 [(.fld (.var 2) 0), (.var 1)] 1
 (.letE ⟨(.bin .lss 3), [(.var 3), (.int .i64 (0))]⟩
 (.ite (.var 4)
 (.ret [(.int .i64 (-1))])
 (.call 34 [(.fld (.var 2) 1), (.var 3)] 1
 (.letE ⟨(.bin .lss 3), [(.var 5), (.int .i64 (0))]⟩
 (.ite (.var 6)
 (.ret [(.int .i64 (-1))])
 (.ret [(.var 5)]))))))))
/- loop.example/g00365/laws.szRowS -/
def sg130 : Sig := ⟨[.val, .val], [((.int .i64), .sh)], false⟩
def hi130 : Hints := [((0, 5), ⟨[(1, .sh), (4, .sh), (5, .sh)], [], []⟩)]
def ir130 : IR := (.letE ⟨.len, [(.var 0)]⟩
 (.letE ⟨(.bin .sub 3), [(.var 1), (.var 2)]⟩
 (.letE ⟨(.bin .lss 3), [(.var 3), (.int .i64 (0))]⟩
 (.ite (.var 4)
 (.ret [(.int .i64 (-1))])
 (.label true
 (.letE ⟨.len, [(.var 0)]⟩
 (.letE ⟨(.bin .lss 3), [(.var 7), (.var 8)]⟩
 (.ite (.var 9)
 (.letE ⟨(.idx 4), [(.var 0), (.var 7)]⟩
 (.letE ⟨(.cells 0 4), [(.var 10)]⟩
 (.call 157 [(.var 11), (.var 5)] 1
 (.letE ⟨(.bin .lss 3), [(.var 12), (.int .i64 (0))]⟩
 (.ite (.var 13)
 (.ret [(.int .i64 (-1))])
 (.letE ⟨(.bin .add 3), [(.var 7), (.int .i64 (1))]⟩
 (.jump 0 [(.var 12), (.var 6), (.var 14)])))))))
 (.ret [(.var 5)]))))
 (.jump 0 [(.var 3), (.int .i64 (0)), (.int .i64 (0))]))))))
/- loop.example/g00365/laws.eqOp -/
def sg166 : Sig := ⟨[.val, .val], [(.bool, .sh)], false⟩
def hi166 : Hints := []
def ir166 : IR := (.letE ⟨(.all 4), [(.var 0)]⟩
 (.letE ⟨(.all 4), [(.var 1)]⟩
 (.letE ⟨(.bin .neq 3), [(.fld (.var 2) 0), (.fld (.var 3) 0)]⟩
 (.ite (.var 4)
 (.ret [(.bool false)])
 (.call 13 [(.fld (.var 2) 1), (.fld (.var 3) 1)] 1
 (.letE ⟨(.un .not), [(.var 5)]⟩
 (.ite (.var 6)
 (.ret [(.bool false)])
 (.call 13 [(.fld (.var 2) 2), (.fld (.var 3) 2)] 1
 (.letE ⟨(.un .not), [(.var 7)]⟩
 (.ite (.var 8)
 (.ret [(.bool false)])
 (.letE ⟨(.bin .neq 3), [(.fld (.var 2) 3), (.fld (.var 3) 3)]⟩
 (.ite (.var 9)
 (.ret [(.bool false)])
 (.ret [(.bool true)])))))))))))))
/- loop.example/g00365/laws.eqCmd -/
def sg145 : Sig := ⟨[.val, .val], [(.bool, .sh)], false⟩
def hi145 : Hints := []
def ir145 : IR := (.letE ⟨(.all 6), [(.var 0)]⟩
 (.letE ⟨(.all 6), [(.var 1)]⟩
 (.letE ⟨(.bin .neq 3), [(.fld (.var 2) 0), (.fld (.var 3) 0)]⟩
 (.ite (.var 4)
 (.ret [(.bool false)])
 (.letE ⟨(.bin .neq 3), [(.fld (.var 2) 1), (.fld (.var 3) 1)]⟩
 (.ite (.var 5)
 (.ret [(.bool false)])
 (.letE ⟨.mk, [(.fld (.var 2) 2), (.fld (.var 2) 3), (.fld (.var 2) 4), (.fld (.var 2) 5)]⟩
 (.letE ⟨.mk, [(.fld (.var 3) 2), (.fld (.var 3) 3), (.fld (.var 3) 4), (.fld (.var 3) 5)]⟩
 (.call 166 [(.var 6), (.var 7)] 1
 (.letE ⟨(.un .not), [(.var 8)]⟩
 (.ite (.var 9)
 (.ret [(.bool false)])
 (.ret [(.bool true)]))))))))))))
/- loop.example/g00365/laws.eqCmdS -/
def sg82 : Sig := ⟨[.val, .val], [(.bool, .sh)], false⟩
def hi82 : Hints := [((0, 4), ⟨[(4, .sh), (5, .sh)], [], []⟩)]
def ir82 : IR := (.letE ⟨.len, [(.var 0)]⟩
 (.letE ⟨.len, [(.var 1)]⟩
 (.letE ⟨(.bin .neq 3), [(.var 2), (.var 3)]⟩
 (.ite (.var 4)
 (.ret [(.bool false)])
 (.label true
 (.letE ⟨.len, [(.var 0)]⟩
 (.letE ⟨(.bin .lss 3), [(.var 6), (.var 7)]⟩
 (.ite (.var 8)
 (.letE ⟨(.idx 6), [(.var 0), (.var 6)]⟩
 (.letE ⟨(.cells 0 6), [(.var 9)]⟩
 (.letE ⟨(.idx 6), [(.var 1), (.var 6)]⟩
 (.letE ⟨(.cells 0 6), [(.var 11)]⟩
 (.call 145 [(.var 10), (.var 12)] 1
 (.letE ⟨(.un .not), [(.var 13)]⟩
 (.ite (.var 14)
 (.ret [(.bool false)])
 (.letE ⟨(.bin .add 3), [(.var 6), (.int .i64 (1))]⟩
 (.jump 0 [(.var 5), (.var 15)])))))))))
 (.ret [(.bool true)]))))
 (.jump 0 [(.bool false), (.int .i64 (0))]))))))
/- loop.example/g00365/laws.eqTomb -/
def sg149 : Sig := ⟨[.val, .val], [(.bool, .sh)], false⟩
def hi149 : Hints := []
def ir149 : IR := (.letE ⟨(.all 2), [(.var 0)]⟩
 (.letE ⟨(.all 2), [(.var 1)]⟩
 (.call 13 [(.fld (.var 2) 0), (.fld (.var 3) 0)] 1
 (.letE ⟨(.un .not), [(.var 4)]⟩
 (.ite (.var 5)
 (.ret [(.bool false)])
 (.letE ⟨(.bin .neq 3), [(.fld (.var 2) 1), (.fld (.var 3) 1)]⟩
 (.ite (.var 6)
 (.ret [(.bool false)])
 (.ret [(.bool true)]))))))))
/- loop.example/g00365/laws.eqTombS -/
def sg86 : Sig := ⟨[.val, .val], [(.bool, .sh)], false⟩
def hi86 : Hints := [((0, 4), ⟨[(4, .sh), (5, .sh)], [], []⟩)]
def ir86 : IR := (.letE ⟨.len, [(.var 0)]⟩
 (.letE ⟨.len, [(.var 1)]⟩
 (.letE ⟨(.bin .neq 3), [(.var 2), (.var 3)]⟩
 (.ite (.var 4)
 (.ret [(.bool false)])
 (.label true
 (.letE ⟨.len, [(.var 0)]⟩
 (.letE ⟨(.bin .lss 3), [(.var 6), (.var 7)]⟩
 (.ite (.var 8)
 (.letE ⟨(.idx 2), [(.var 0), (.var 6)]⟩
 (.letE ⟨(.cells 0 2), [(.var 9)]⟩
 (.letE ⟨(.idx 2), [(.var 1), (.var 6)]⟩
 (.letE ⟨(.cells 0 2), [(.var 11)]⟩
 (.call 149 [(.var 10), (.var 12)] 1
 (.letE ⟨(.un .not), [(.var 13)]⟩
 (.ite (.var 14)
 (.ret [(.bool false)])
 (.letE ⟨(.bin .add 3), [(.var 6), (.int .i64 (1))]⟩
 (.jump 0 [(.var 5), (.var 15)])))))))))
 (.ret [(.bool true)]))))
 (.jump 0 [(.bool false), (.int .i64 (0))]))))))
/- loop.example/g00365/laws.eqState -/
def sg31 : Sig := ⟨[.val, .val], [(.bool, .sh)], false⟩
def hi31 : Hints := []
def ir31 : IR := (.letE ⟨(.all 6), [(.var 0)]⟩
 (.letE ⟨(.all 6), [(.var 1)]⟩
 (.letE ⟨(.bin .neq 3), [(.fld (.var 2) 0), (.fld (.var 3) 0)]⟩
 (.ite (.var 4)
 (.ret [(.bool false)])
 (.call 85 [(.fld (.var 2) 1), (.fld (.var 3) 1)] 1
 (.letE ⟨(.un .not), [(.var 5)]⟩
 (.ite (.var 6)
 (.ret [(.bool false)])
 (.call 86 [(.fld (.var 2) 2), (.fld (.var 3) 2)] 1
 (.letE ⟨(.un .not), [(.var 7)]⟩
 (.ite (.var 8)
 (.ret [(.bool false)])
 (.letE ⟨(.bin .neq 3), [(.fld (.var 2) 3), (.fld (.var 3) 3)]⟩
 (.ite (.var 9)
 (.ret [(.bool false)])
 (.call 87 [(.fld (.var 2) 4), (.fld (.var 3) 4)] 1
 (.letE ⟨(.un .not), [(.var 10)]⟩
 (.ite (.var 11)
 (.ret [(.bool false)])
 (.call 88 [(.fld (.var 2) 5), (.fld (.var 3) 5)] 1
 (.letE ⟨(.un .not), [(.var 12)]⟩
 (.ite (.var 13)
 (.ret [(.bool false)])
 (.ret [(.bool true)])))))))))))))))))))
/- loop.example/g00365/laws.eqSnap -/
def sg29 : Sig := ⟨[.val, .val], [(.bool, .sh)], false⟩
def hi29 : Hints := []
def ir29 : IR := (.letE ⟨(.all 7), [(.var 0)]⟩
 (.letE ⟨(.all 7), [(.var 1)]⟩
 (.letE ⟨.mk, [(.fld (.var 2) 0), (.fld (.var 2) 1), (.fld (.var 2) 2), (.fld (.var 2) 3), (.fld (.var 2) 4), (.fld (.var 2) 5)]⟩
 (.letE ⟨.mk, [(.fld (.var 3) 0), (.fld (.var 3) 1), (.fld (.var 3) 2), (.fld (.var 3) 3), (.fld (.var 3) 4), (.fld (.var 3) 5)]⟩
 (.call 31 [(.var 4), (.var 5)] 1
 (.letE ⟨(.un .not), [(.var 6)]⟩
 (.ite (.var 7)
 (.ret [(.bool false)])
 (.call 82 [(.fld (.var 2) 6), (.fld (.var 3) 6)] 1
 (.letE ⟨(.un .not), [(.var 8)]⟩
 (.ite (.var 9)
 (.ret [(.bool false)])
 (.ret [(.bool true)])))))))))))
/- (loop.example/g00365/impl.Op).same -/
def sg165 : Sig := ⟨[.val, .val], [(.bool, .sh)], false⟩
def hi165 : Hints := []
def ir165 : IR := (.letE ⟨(.all 4), [(.var 0)]⟩
 (.letE ⟨(.all 4), [(.var 1)]⟩
 (.letE ⟨(.bin .eql 3), [(.fld (.var 2) 0), (.fld (.var 3) 0)]⟩
 (.ite (.var 4)
 (.call 69 [(.fld (.var 2) 1), (.fld (.var 3) 1)] 1
 (.ite (.var 5)
 (.call 69 [(.fld (.var 2) 2), (.fld (.var 3) 2)] 1
 (.ite (.var 6)
 (.letE ⟨(.bin .eql 3), [(.fld (.var 2) 3), (.fld (.var 3) 3)]⟩
 (.ret [(.var 7)]))
 (.ret [(.bool false)])))
 (.ret [(.bool false)])))
 (.ret [(.bool false)])))))
/- (loop.example/g00365/impl.Cmd).same -/
def sg142 : Sig := ⟨[.val, .val], [(.bool, .sh)], false⟩
def hi142 : Hints := []
def ir142 : IR := (.letE ⟨(.all 6), [(.var 0)]⟩
 (.letE ⟨(.all 6), [(.var 1)]⟩
 (.letE ⟨(.bin .eql 3), [(.fld (.var 2) 0), (.fld (.var 3) 0)]⟩
 (.ite (.var 4)
 (.letE ⟨(.bin .eql 3), [(.fld (.var 2) 1), (.fld (.var 3) 1)]⟩
 (.ite (.var 5)
 (.letE ⟨.mk, [(.fld (.var 2) 2), (.fld (.var 2) 3), (.fld (.var 2) 4), (.fld (.var 2) 5)]⟩
 (.letE ⟨.mk, [(.fld (.var 3) 2), (.fld (.var 3) 3), (.fld (.var 3) 4), (.fld (.var 3) 5)]⟩
 (.call 165 [(.var 6), (.var 7)] 1
 (.ret [(.var 8)]))))
 (.ret [(.bool false)])))
 (.ret [(.bool false)])))))
/- slices.IndexFunc[[]loop.example/g00365/impl.Tomb,loop.example/g00365/impl.Tomb] -/
def sg120 : Sig := ⟨[.val, (.fn 121 1)], [((.int .i64), .sh)], false⟩
def hi120 : Hints := [((0, 2), ⟨[(4, .sh), (8, .sh)], [], []⟩)]
def ir120 : IR := (.letE ⟨.len, [(.var 0)]⟩
 (.label true
 (.letE ⟨(.bin .lss 3), [(.var 4), (.var 2)]⟩
 (.ite (.var 5)
 (.letE ⟨(.idx 2), [(.var 0), (.var 4)]⟩
 (.letE ⟨(.cells 0 2), [(.var 6)]⟩
 (.call 121 [(.var 7), (.var 1)] 1
 (.ite (.var 8)
 (.ret [(.var 4)])
 (.letE ⟨(.bin .add 3), [(.var 4), (.int .i64 (1))]⟩
 (.jump 0 [(.var 3), (.var 9)]))))))
 (.ret [(.int .i64 (-1))])))
 (.jump 0 [(.int .i64 (0)), (.int .i64 (0))])))
/- (loop.example/g00365/impl.State).tomb -/
def sg65 : Sig := ⟨[.val, .val], [((.int .i64), .sh)], false⟩
def hi65 : Hints := []
def ir65 : IR := (.letE ⟨(.all 6), [(.var 0)]⟩
 (.letE ⟨(.all 1), [(.var 1)]⟩
 (.call 120 [(.fld (.var 2) 2), (.fld (.var 3) 0)] 1
 (.ret [(.var 4)]))))
/- slices.IndexFunc[[]loop.example/g00365/impl.Session,loop.example/g00365/impl.Session] -/
def sg115 : Sig := ⟨[.val, (.fn 116 1)], [((.int .i64), .sh)], false⟩
def hi115 : Hints := [((0, 2), ⟨[(4, .sh), (8, .sh)], [], []⟩)]
def ir115 : IR := (.letE ⟨.len, [(.var 0)]⟩
 (.label true
 (.letE ⟨(.bin .lss 3), [(.var 4), (.var 2)]⟩
 (.ite (.var 5)
 (.letE ⟨(.idx 2), [(.var 0), (.var 4)]⟩
 (.letE ⟨(.cells 0 2), [(.var 6)]⟩
 (.call 116 [(.var 7), (.var 1)] 1
 (.ite (.var 8)
 (.ret [(.var 4)])
 (.letE ⟨(.bin .add 3), [(.var 4), (.int .i64 (1))]⟩
 (.jump 0 [(.var 3), (.var 9)]))))))
 (.ret [(.int .i64 (-1))])))
 (.jump 0 [(.int .i64 (0)), (.int .i64 (0))])))
/- (loop.example/g00365/impl.State).session -/
def sg62 : Sig := ⟨[.val, .val], [((.int .i64), .sh)], false⟩
def hi62 : Hints := []
def ir62 : IR := (.letE ⟨(.all 6), [(.var 0)]⟩
 (.letE ⟨(.all 1), [(.var 1)]⟩
 (.call 115 [(.fld (.var 2) 4), (.fld (.var 3) 0)] 1
 (.ret [(.var 4)]))))
/- loop.example/g00365/impl.KeyOk -/
def sg60 : Sig := ⟨[.val], [(.bool, .sh)], false⟩
def hi60 : Hints := [((0, 2), ⟨[(2, .sh), (7, .sh)], [], []⟩)]
def ir60 : IR := (.letE ⟨.len, [(.var 0)]⟩
 (.label true
 (.letE ⟨(.bin .lss 3), [(.var 3), (.var 1)]⟩
 (.ite (.var 4)
 (.letE ⟨(.idx 1), [(.var 0), (.var 3)]⟩
 (.letE ⟨.a, [(.fld (.var 5) 0)]⟩
 (.letE ⟨(.bin .lss 5), [(.var 6), (.int .u8 (97))]⟩
 (.ite (.var 7)
 (.letE ⟨(.bin .neq 5), [(.var 6), (.int .u8 (47))]⟩
 (.ite (.var 8)
 (.ret [(.bool false)])
 (.letE ⟨(.bin .add 3), [(.var 3), (.int .i64 (1))]⟩
 (.jump 0 [(.var 2), (.var 9)]))))
 (.letE ⟨(.bin .gtr 5), [(.var 6), (.int .u8 (122))]⟩
 (.ite (.var 8)
 (.letE ⟨(.bin .neq 5), [(.var 6), (.int .u8 (47))]⟩
 (.ite (.var 9)
 (.ret [(.bool false)])
 (.letE ⟨(.bin .add 3), [(.var 3), (.int .i64 (1))]⟩
 (.jump 0 [(.var 2), (.var 10)]))))
 (.letE ⟨(.bin .add 3), [(.var 3), (.int .i64 (1))]⟩
 (.jump 0 [(.var 2), (.var 9)]))))))))
 (.letE ⟨.len, [(.var 0)]⟩
 (.call 41 [(.var 5), (.int .i64 (1)), (.int .i64 (20))] 1
 (.ret [(.var 6)])))))
 (.jump 0 [(.bool false), (.int .i64 (0))])))
/- loop.example/g00365/impl.StateOk -/
def sg20 : Sig := ⟨[.val], [(.bool, .sh)], false⟩
def hi20 : Hints := [((0, 25), ⟨[(2, .sh), (185, .sh)], [], []⟩), ((0, 19), ⟨[(2, .sh), (154, .sh)], [], []⟩), ((0, 11), ⟨[(2, .sh), (5, .sh), (112, .sh)], [], []⟩), ((0, 4), ⟨[(2, .sh), (53, .sh)], [], []⟩)]
def ir20 : IR := (.letE ⟨(.all 6), [(.var 0)]⟩
 (.call 41 [(.fld (.var 1) 0), (.int .i64 (0)), (.int .i64 (1000000))] 1
 (.letE ⟨(.un .not), [(.var 2)]⟩
 (.ite (.var 3)
 (.ret [(.bool false)])
 (.call 41 [(.fld (.var 1) 3), (.int .i64 (0)), (.fld (.var 1) 0)] 1
 (.letE ⟨(.un .not), [(.var 4)]⟩
 (.ite (.var 5)
 (.ret [(.bool false)])
 (.letE ⟨.len, [(.fld (.var 1) 1)]⟩
 (.letE ⟨(.bin .gtr 3), [(.var 6), (.int .i64 (20))]⟩
 (.ite (.var 7)
 (.ret [(.bool false)])
 (.letE ⟨.len, [(.fld (.var 1) 2)]⟩
 (.letE ⟨(.bin .gtr 3), [(.var 8), (.int .i64 (10))]⟩
 (.ite (.var 9)
 (.ret [(.bool false)])
 (.letE ⟨.len, [(.fld (.var 1) 4)]⟩
 (.letE ⟨(.bin .gtr 3), [(.var 10), (.int .i64 (8))]⟩
 (.ite (.var 11)
 (.ret [(.bool false)])
 (.letE ⟨.len, [(.fld (.var 1) 5)]⟩
 (.letE ⟨(.bin .gtr 3), [(.var 12), (.int .i64 (4))]⟩
 (.ite (.var 13)
 (.ret [(.bool false)])
 (.letE ⟨.len, [(.fld (.var 1) 1)]⟩
 (.label true
 (.letE ⟨(.bin .lss 3), [(.var 16), (.var 14)]⟩
 (.ite (.var 17)
 (.letE ⟨(.idx 4), [(.fld (.var 1) 1), (.var 16)]⟩
 (.letE ⟨(.cells 0 4), [(.var 18)]⟩
 (.letE ⟨(.all 4), [(.var 19)]⟩
 (.call 60 [(.fld (.var 20) 0)] 1
 (.letE ⟨(.un .not), [(.var 21)]⟩
 (.ite (.var 22)
 (.ret [(.bool false)])
 (.call 61 [(.fld (.var 20) 1)] 1
 (.letE ⟨(.un .not), [(.var 23)]⟩
 (.ite (.var 24)
 (.ret [(.bool false)])
 (.call 41 [(.fld (.var 20) 2), (.int .i64 (1)), (.fld (.var 1) 0)] 1
 (.letE ⟨(.un .not), [(.var 25)]⟩
 (.ite (.var 26)
 (.ret [(.bool false)])
 (.letE ⟨(.bin .neq 3), [(.fld (.var 20) 3), (.int .i64 (0))]⟩
 (.ite (.var 27)
 (.letE ⟨.mk, [(.fld (.var 1) 0), (.fld (.var 1) 1), (.fld (.var 1) 2), (.fld (.var 1) 3), (.fld (.var 1) 4), (.fld (.var 1) 5)]⟩
 (.call 62 [(.var 28), (.fld (.var 20) 3)] 1
 (.letE ⟨(.bin .lss 3), [(.var 29), (.int .i64 (0))]⟩
 (.ite (.var 30)
 (.ret [(.bool false)])
 (.letE ⟨(.bin .gtr 3), [(.var 16), (.int .i64 (0))]⟩
 (.ite (.var 31)
 (.letE ⟨(.bin .sub 3), [(.var 16), (.int .i64 (1))]⟩
 (.letE ⟨(.idx 4), [(.fld (.var 1) 1), (.var 32)]⟩
 (.letE ⟨.a, [(.fld (.var 33) 0)]⟩
 (.call 63 [(.var 34), (.fld (.var 20) 0)] 1
 (.letE ⟨(.bin .geq 3), [(.var 35), (.int .i64 (0))]⟩
 (.ite (.var 36)
 (.ret [(.bool false)])
 (.letE ⟨(.bin .add 3), [(.var 16), (.int .i64 (1))]⟩
 (.jump 0 [(.var 15), (.var 37)]))))))))
 (.letE ⟨(.bin .add 3), [(.var 16), (.int .i64 (1))]⟩
 (.jump 0 [(.var 15), (.var 32)]))))))))
 (.letE ⟨(.bin .gtr 3), [(.var 16), (.int .i64 (0))]⟩
 (.ite (.var 28)
 (.letE ⟨(.bin .sub 3), [(.var 16), (.int .i64 (1))]⟩
 (.letE ⟨(.idx 4), [(.fld (.var 1) 1), (.var 29)]⟩
 (.letE ⟨.a, [(.fld (.var 30) 0)]⟩
 (.call 63 [(.var 31), (.fld (.var 20) 0)] 1
 (.letE ⟨(.bin .geq 3), [(.var 32), (.int .i64 (0))]⟩
 (.ite (.var 33)
 (.ret [(.bool false)])
 (.letE ⟨(.bin .add 3), [(.var 16), (.int .i64 (1))]⟩
 (.jump 0 [(.var 15), (.var 34)]))))))))
 (.letE ⟨(.bin .add 3), [(.var 16), (.int .i64 (1))]⟩
 (.jump 0 [(.var 15), (.var 29)]))))))))))))))))))
 (.letE ⟨.mx, [(.int .i64 (1)), (.fld (.var 1) 3)]⟩
 (.letE ⟨.len, [(.fld (.var 1) 2)]⟩
 (.label true
 (.letE ⟨(.bin .lss 3), [(.var 22), (.var 19)]⟩
 (.ite (.var 23)
 (.letE ⟨(.idx 2), [(.fld (.var 1) 2), (.var 22)]⟩
 (.letE ⟨(.cells 0 2), [(.var 24)]⟩
 (.letE ⟨(.all 2), [(.var 25)]⟩
 (.letE ⟨.mk, [(.fld (.var 1) 0), (.fld (.var 1) 1), (.fld (.var 1) 2), (.fld (.var 1) 3), (.fld (.var 1) 4), (.fld (.var 1) 5)]⟩
 (.call 64 [(.var 27), (.fld (.var 26) 0)] 2
 (.ite (.var 29)
 (.ret [(.bool false)])
 (.call 60 [(.fld (.var 26) 0)] 1
 (.letE ⟨(.un .not), [(.var 30)]⟩
 (.ite (.var 31)
 (.ret [(.bool false)])
 (.letE ⟨.mk, [(.fld (.var 1) 0), (.fld (.var 1) 1), (.fld (.var 1) 2), (.fld (.var 1) 3), (.fld (.var 1) 4), (.fld (.var 1) 5)]⟩
 (.call 65 [(.var 32), (.fld (.var 26) 0)] 1
 (.letE ⟨(.bin .neq 3), [(.var 33), (.var 22)]⟩
 (.ite (.var 34)
 (.ret [(.bool false)])
 (.call 41 [(.fld (.var 26) 1), (.var 21), (.fld (.var 1) 0)] 1
 (.letE ⟨(.un .not), [(.var 35)]⟩
 (.ite (.var 36)
 (.ret [(.bool false)])
 (.letE ⟨(.bin .add 3), [(.var 22), (.int .i64 (1))]⟩
 (.jump 1 [(.var 20), (.fld (.var 26) 1), (.var 37)]))))))))))))))))))
 (.letE ⟨.len, [(.fld (.var 1) 4)]⟩
 (.label true
 (.letE ⟨(.bin .lss 3), [(.var 26), (.var 24)]⟩
 (.ite (.var 27)
 (.letE ⟨(.idx 2), [(.fld (.var 1) 4), (.var 26)]⟩
 (.letE ⟨(.cells 0 2), [(.var 28)]⟩
 (.letE ⟨(.all 2), [(.var 29)]⟩
 (.call 41 [(.fld (.var 30) 0), (.int .i64 (1)), (.fld (.var 1) 0)] 1
 (.letE ⟨(.un .not), [(.var 31)]⟩
 (.ite (.var 32)
 (.ret [(.bool false)])
 (.letE ⟨(.bin .gtr 3), [(.var 26), (.int .i64 (0))]⟩
 (.ite (.var 33)
 (.letE ⟨(.bin .sub 3), [(.var 26), (.int .i64 (1))]⟩
 (.letE ⟨(.idx 2), [(.fld (.var 1) 4), (.var 34)]⟩
 (.letE ⟨.a, [(.fld (.var 35) 0)]⟩
 (.letE ⟨(.bin .geq 3), [(.var 36), (.fld (.var 30) 0)]⟩
 (.ite (.var 37)
 (.ret [(.bool false)])
 (.letE ⟨(.bin .add 3), [(.var 26), (.int .i64 (1))]⟩
 (.jump 2 [(.var 25), (.var 38)])))))))
 (.letE ⟨(.bin .add 3), [(.var 26), (.int .i64 (1))]⟩
 (.jump 2 [(.var 25), (.var 34)]))))))))))
 (.letE ⟨.len, [(.fld (.var 1) 5)]⟩
 (.label true
 (.letE ⟨(.bin .lss 3), [(.var 30), (.var 28)]⟩
 (.ite (.var 31)
 (.letE ⟨(.idx 4), [(.fld (.var 1) 5), (.var 30)]⟩
 (.letE ⟨(.cells 0 4), [(.var 32)]⟩
 (.letE ⟨(.all 4), [(.var 33)]⟩
 (.call 41 [(.fld (.var 34) 0), (.int .i64 (0)), (.int .i64 (3))] 1
 (.letE ⟨(.un .not), [(.var 35)]⟩
 (.ite (.var 36)
 (.ret [(.bool false)])
 (.call 41 [(.fld (.var 34) 1), (.int .i64 (1)), (.int .i64 (1000000))] 1
 (.letE ⟨(.un .not), [(.var 37)]⟩
 (.ite (.var 38)
 (.ret [(.bool false)])
 (.call 41 [(.fld (.var 34) 2), (.int .i64 (0)), (.int .i64 (5))] 1
 (.letE ⟨(.un .not), [(.var 39)]⟩
 (.ite (.var 40)
 (.ret [(.bool false)])
 (.call 41 [(.fld (.var 34) 3), (.int .i64 (1)), (.fld (.var 1) 0)] 1
 (.letE ⟨(.un .not), [(.var 41)]⟩
 (.ite (.var 42)
 (.ret [(.bool false)])
 (.letE ⟨(.bin .gtr 3), [(.var 30), (.int .i64 (0))]⟩
 (.ite (.var 43)
 (.letE ⟨(.bin .sub 3), [(.var 30), (.int .i64 (1))]⟩
 (.letE ⟨(.idx 4), [(.fld (.var 1) 5), (.var 44)]⟩
 (.letE ⟨.a, [(.fld (.var 45) 0)]⟩
 (.letE ⟨(.bin .geq 3), [(.var 46), (.fld (.var 34) 0)]⟩
 (.ite (.var 47)
 (.ret [(.bool false)])
 (.letE ⟨(.bin .add 3), [(.var 30), (.int .i64 (1))]⟩
 (.jump 3 [(.var 29), (.var 48)])))))))
 (.letE ⟨(.bin .add 3), [(.var 30), (.int .i64 (1))]⟩
 (.jump 3 [(.var 29), (.var 44)])))))))))))))))))))
 (.ret [(.bool true)])))
 (.jump 3 [(.var 25), (.int .i64 (0))])))))
 (.jump 2 [(.var 20), (.int .i64 (0))])))))
 (.jump 1 [(.var 15), (.var 18), (.int .i64 (0))]))))))
 (.jump 0 [(.bool false), (.int .i64 (0))]))))))))))))))))))))))
/- loop.example/g00365/spec.OpOk -/
def sg135 : Sig := ⟨[.val], [(.bool, .sh)], false⟩
def hi135 : Hints := [((1, 13), ⟨[(88, .sh)], [], [89, 90, 91]⟩), ((1, 8), ⟨[(85, .sh)], [], [78, 79, 80, 81, 82, 83, 84]⟩), ((1, 7), ⟨[(4, .sh)], [], [65, 66, 67, 68, 69, 70, 71, 72, 73, 74, 75, 76, 77]⟩), ((1, 5), ⟨[(64, .sh)], [], [48, 49, 50, 51, 52, 53, 54, 55, 56, 57, 58, 59, 60, 61, 62, 63]⟩), ((1, 4), ⟨[(3, .sh)], [], [25, 26, 27, 28, 29, 30, 31, 32, 33, 34, 35, 36, 37, 38, 39, 40, 41, 42, 43, 44, 45, 46, 47]⟩), ((1, 2), ⟨[(24, .sh)], [], [5, 6, 7, 8, 9, 10, 11, 12, 13, 14, 15, 16, 17, 18, 19, 20, 21, 22, 23]⟩)]
def ir135 : IR := (.letE ⟨(.all 4), [(.var 0)]⟩
 (.label false
 (.ite (.var 2)
 (.ret [(.bool false)])
 (.label false
 (.label false
 (.ite (.var 4)
 (.ret [(.bool false)])
 (.label false
 (.label false
 (.ite (.var 6)
 (.ret [(.bool false)])
 (.label false
 (.ite (.var 7)
 (.letE ⟨(.bin .eql 3), [(.fld (.var 1) 3), (.int .i64 (0))]⟩
 (.ret [(.var 8)]))
 (.letE ⟨(.bin .eql 3), [(.fld (.var 1) 0), (.int .i64 (4))]⟩
 (.ite (.var 8)
 (.letE ⟨(.bin .leq 3), [(.fld (.var 1) 3), (.int .i64 (1))]⟩
 (.ret [(.var 9)]))
 (.letE ⟨(.bin .eql 3), [(.fld (.var 1) 0), (.int .i64 (2))]⟩
 (.ite (.var 9)
 (.ret [(.bool true)])
 (.letE ⟨(.bin .geq 3), [(.fld (.var 1) 3), (.int .i64 (1))]⟩
 (.ret [(.var 10)])))))))
 (.letE ⟨(.bin .eql 3), [(.fld (.var 1) 0), (.int .i64 (0))]⟩
 (.ite (.var 7)
 (.jump 5 [(.var 7)])
 (.letE ⟨(.bin .eql 3), [(.fld (.var 1) 0), (.int .i64 (1))]⟩
 (.ite (.var 8)
 (.jump 5 [(.var 8)])
 (.letE ⟨(.bin .eql 3), [(.fld (.var 1) 0), (.int .i64 (3))]⟩
 (.jump 5 [(.var 9)]))))))))
 (.letE ⟨(.un .not), [(.var 5)]⟩
 (.ite (.var 6)
 (.letE ⟨.len, [(.fld (.var 1) 2)]⟩
 (.letE ⟨(.bin .gtr 3), [(.var 7), (.int .i64 (0))]⟩
 (.jump 4 [(.var 8)])))
 (.jump 4 [(.bool false)]))))
 (.letE ⟨(.bin .eql 3), [(.fld (.var 1) 0), (.int .i64 (1))]⟩
 (.ite (.var 5)
 (.jump 3 [(.bool true)])
 (.letE ⟨(.bin .eql 3), [(.fld (.var 1) 0), (.int .i64 (2))]⟩
 (.ite (.var 6)
 (.jump 3 [(.bool true)])
 (.letE ⟨(.bin .eql 3), [(.fld (.var 1) 0), (.int .i64 (6))]⟩
 (.jump 3 [(.var 7)]))))))))
 (.ite (.var 3)
 (.call 55 [(.fld (.var 1) 1)] 1
 (.letE ⟨(.un .not), [(.var 4)]⟩
 (.ite (.var 5)
 (.jump 2 [(.bool true)])
 (.letE ⟨(.un .not), [(.var 3)]⟩
 (.ite (.var 6)
 (.letE ⟨.len, [(.fld (.var 1) 1)]⟩
 (.letE ⟨(.bin .gtr 3), [(.var 7), (.int .i64 (0))]⟩
 (.jump 2 [(.var 8)])))
 (.jump 2 [(.bool false)]))))))
 (.letE ⟨(.un .not), [(.var 3)]⟩
 (.ite (.var 4)
 (.letE ⟨.len, [(.fld (.var 1) 1)]⟩
 (.letE ⟨(.bin .gtr 3), [(.var 5), (.int .i64 (0))]⟩
 (.jump 2 [(.var 6)])))
 (.jump 2 [(.bool false)])))))
 (.letE ⟨(.bin .eql 3), [(.fld (.var 1) 0), (.int .i64 (1))]⟩
 (.ite (.var 3)
 (.jump 1 [(.bool true)])
 (.letE ⟨(.bin .eql 3), [(.fld (.var 1) 0), (.int .i64 (2))]⟩
 (.ite (.var 4)
 (.jump 1 [(.bool true)])
 (.letE ⟨(.bin .eql 3), [(.fld (.var 1) 0), (.int .i64 (3))]⟩
 (.ite (.var 5)
 (.jump 1 [(.bool true)])
 (.letE ⟨(.bin .eql 3), [(.fld (.var 1) 0), (.int .i64 (6))]⟩
 (.ite (.var 6)
 (.jump 1 [(.bool true)])
 (.letE ⟨(.bin .eql 3), [(.fld (.var 1) 0), (.int .i64 (7))]⟩
 (.jump 1 [(.var 7)]))))))))))))
 (.letE ⟨(.bin .lss 3), [(.fld (.var 1) 0), (.int .i64 (0))]⟩
 (.ite (.var 2)
 (.jump 0 [(.bool true)])
 (.letE ⟨(.bin .gtr 3), [(.fld (.var 1) 0), (.int .i64 (7))]⟩
 (.ite (.var 3)
 (.jump 0 [(.bool true)])
 (.call 56 [(.fld (.var 1) 2)] 1
 (.letE ⟨(.un .not), [(.var 4)]⟩
 (.ite (.var 5)
 (.jump 0 [(.bool true)])
 (.call 54 [(.fld (.var 1) 3)] 1
 (.letE ⟨(.un .not), [(.var 6)]⟩
 (.jump 0 [(.var 7)]))))))))))))
/- loop.example/g00365/spec.CmdOk -/
def sg76 : Sig := ⟨[.val], [(.bool, .sh)], false⟩
def hi76 : Hints := []
def ir76 : IR := (.letE ⟨(.all 6), [(.var 0)]⟩
 (.letE ⟨(.bin .eql 3), [(.fld (.var 1) 0), (.int .i64 (-1))]⟩
 (.ite (.var 2)
 (.letE ⟨(.bin .eql 3), [(.fld (.var 1) 1), (.int .i64 (0))]⟩
 (.ite (.var 3)
 (.letE ⟨(.bin .eql 3), [(.fld (.var 1) 2), (.int .i64 (0))]⟩
 (.ite (.var 4)
 (.letE ⟨.mk, [(.fld (.var 1) 2), (.fld (.var 1) 3), (.fld (.var 1) 4), (.fld (.var 1) 5)]⟩
 (.call 135 [(.var 5)] 1
 (.ret [(.var 6)])))
 (.ret [(.bool false)])))
 (.ret [(.bool false)])))
 (.letE ⟨(.bin .geq 3), [(.fld (.var 1) 0), (.int .i64 (0))]⟩
 (.ite (.var 3)
 (.letE ⟨(.bin .lss 3), [(.fld (.var 1) 0), (.int .i64 (4))]⟩
 (.ite (.var 4)
 (.letE ⟨(.bin .geq 3), [(.fld (.var 1) 1), (.int .i64 (1))]⟩
 (.ite (.var 5)
 (.letE ⟨(.bin .leq 3), [(.fld (.var 1) 1), (.int .i64 (1000000))]⟩
 (.ite (.var 6)
 (.letE ⟨.mk, [(.fld (.var 1) 2), (.fld (.var 1) 3), (.fld (.var 1) 4), (.fld (.var 1) 5)]⟩
 (.call 135 [(.var 7)] 1
 (.ret [(.var 8)])))
 (.ret [(.bool false)])))
 (.ret [(.bool false)])))
 (.ret [(.bool false)])))
 (.ret [(.bool false)]))))))
/- loop.example/g00365/spec.SnapOk -/
def sg26 : Sig := ⟨[.val], [(.bool, .sh)], false⟩
def hi26 : Hints := [((0, 4), ⟨[(2, .sh), (3, .sh)], [], []⟩)]
def ir26 : IR := (.letE ⟨(.all 7), [(.var 0)]⟩
 (.letE ⟨.mk, [(.fld (.var 1) 0), (.fld (.var 1) 1), (.fld (.var 1) 2), (.fld (.var 1) 3), (.fld (.var 1) 4), (.fld (.var 1) 5)]⟩
 (.call 19 [(.var 2)] 1
 (.letE ⟨(.un .not), [(.var 3)]⟩
 (.ite (.var 4)
 (.ret [(.bool false)])
 (.letE ⟨.len, [(.fld (.var 1) 6)]⟩
 (.letE ⟨(.bin .gtr 3), [(.var 5), (.int .i64 (400))]⟩
 (.ite (.var 6)
 (.ret [(.bool false)])
 (.letE ⟨.len, [(.fld (.var 1) 6)]⟩
 (.letE ⟨(.bin .sub 3), [(.int .i64 (1000000)), (.fld (.var 1) 0)]⟩
 (.letE ⟨(.bin .gtr 3), [(.var 7), (.var 8)]⟩
 (.ite (.var 9)
 (.ret [(.bool false)])
 (.label true
 (.letE ⟨.len, [(.fld (.var 1) 6)]⟩
 (.letE ⟨(.bin .lss 3), [(.var 11), (.var 12)]⟩
 (.ite (.var 13)
 (.letE ⟨(.idx 6), [(.fld (.var 1) 6), (.var 11)]⟩
 (.letE ⟨(.cells 0 6), [(.var 14)]⟩
 (.call 76 [(.var 15)] 1
 (.letE ⟨(.un .not), [(.var 16)]⟩
 (.ite (.var 17)
 (.ret [(.bool false)])
 (.letE ⟨(.bin .add 3), [(.var 11), (.int .i64 (1))]⟩
 (.jump 0 [(.var 10), (.var 18)])))))))
 (.ret [(.bool true)]))))
 (.jump 0 [(.bool false), (.int .i64 (0))]))))))))))))))
/- loop.example/g00365/laws.toOp -/
def sg164 : Sig := ⟨[.val], [((.pair (.int .i64) (.pair (.sl (.int .u8)) (.pair (.sl (.int .u8)) (.pair (.int .i64) .unit)))), (.pair .sh (.pair (.own .sh) (.pair (.own .sh) .sh))))], false⟩
def hi164 : Hints := []
def ir164 : IR := (.letE ⟨(.all 4), [(.var 0)]⟩
 (.letE ⟨.atom, [(.fld (.var 1) 0)]⟩
 (.call 10 [(.fld (.var 1) 1)] 1
 (.letE ⟨.atom, [(.var 3)]⟩
 (.call 10 [(.fld (.var 1) 2)] 1
 (.letE ⟨.atom, [(.var 5)]⟩
 (.letE ⟨.atom, [(.fld (.var 1) 3)]⟩
 (.letE ⟨.mk, [(.var 2), (.var 4), (.var 6), (.var 7)]⟩
 (.letE ⟨(.all 4), [(.var 8)]⟩
 (.letE ⟨.mk, [(.fld (.var 9) 0), (.fld (.var 9) 1), (.fld (.var 9) 2), (.fld (.var 9) 3)]⟩
 (.ret [(.var 10)])))))))))))
/- loop.example/g00365/laws.toCmd -/
def sg140 : Sig := ⟨[.val], [((.pair (.int .i64) (.pair (.int .i64) (.pair (.int .i64) (.pair (.sl (.int .u8)) (.pair (.sl (.int .u8)) (.pair (.int .i64) .unit)))))), (.pair .sh (.pair .sh (.pair .sh (.pair (.own .sh) (.pair (.own .sh) .sh))))))], false⟩
def hi140 : Hints := []
def ir140 : IR := (.letE ⟨(.all 6), [(.var 0)]⟩
 (.letE ⟨.atom, [(.fld (.var 1) 0)]⟩
 (.letE ⟨.atom, [(.fld (.var 1) 1)]⟩
 (.letE ⟨.mk, [(.fld (.var 1) 2), (.fld (.var 1) 3), (.fld (.var 1) 4), (.fld (.var 1) 5)]⟩
 (.call 164 [(.var 4)] 1
 (.letE ⟨(.all 4), [(.var 5)]⟩
 (.letE ⟨.mk, [(.var 2), (.var 3), (.fld (.var 6) 0), (.fld (.var 6) 1), (.fld (.var 6) 2), (.fld (.var 6) 3)]⟩
 (.letE ⟨(.all 6), [(.var 7)]⟩
 (.letE ⟨.mk, [(.fld (.var 8) 0), (.fld (.var 8) 1), (.fld (.var 8) 2), (.fld (.var 8) 3), (.fld (.var 8) 4), (.fld (.var 8) 5)]⟩
 (.ret [(.var 9)]))))))))))
/- loop.example/g00365/laws.toCmdS -/
def sg78 : Sig := ⟨[.val], [((.sl (.pair (.int .i64) (.pair (.int .i64) (.pair (.int .i64) (.pair (.sl (.int .u8)) (.pair (.sl (.int .u8)) (.pair (.int .i64) .unit))))))), (.own .sh))], false⟩
def hi78 : Hints := [((0, 3), ⟨[(4, .sh), (2, (.own .sh)), (3, (.own .sh))], [], []⟩)]
def ir78 : IR := (.letE ⟨.len, [(.var 0)]⟩
 (.letE ⟨.mk, [(.int .i64 (0)), (.int .i64 (0)), (.int .i64 (0)), (.nil (.int .u8)), (.nil (.int .u8)), (.int .i64 (0))]⟩
 (.letE ⟨(.rep (.pair (.int .i64) (.pair (.int .i64) (.pair (.int .i64) (.pair (.sl (.int .u8)) (.pair (.sl (.int .u8)) (.pair (.int .i64) .unit))))))), [(.var 1), (.var 2)]⟩
 (.label true
 (.letE ⟨.len, [(.var 0)]⟩
 (.letE ⟨(.bin .lss 3), [(.var 4), (.var 7)]⟩
 (.ite (.var 8)
 (.letE ⟨(.idx 6), [(.var 0), (.var 4)]⟩
 (.letE ⟨(.cells 0 6), [(.var 9)]⟩
 (.call 140 [(.var 10)] 1
 (.letE ⟨(.idx 6), [(.var 6), (.var 4)]⟩
 (.letE ⟨(.setE 6), [(.var 6), (.var 4), (.var 11)]⟩
 (.letE ⟨(.bin .add 3), [(.var 4), (.int .i64 (1))]⟩
 (.jump 0 [(.var 14), (.var 5), (.var 13)])))))))
 (.ret [(.var 6)]))))
 (.jump 0 [(.int .i64 (0)), (.nil (.pair (.int .i64) (.pair (.int .i64) (.pair (.int .i64) (.pair (.sl (.int .u8)) (.pair (.sl (.int .u8)) (.pair (.int .i64) .unit))))))), (.var 3)])))))
/- loop.example/g00365/laws.toTomb -/
def sg161 : Sig := ⟨[.val], [((.pair (.sl (.int .u8)) (.pair (.int .i64) .unit)), (.pair (.own .sh) .sh))], false⟩
def hi161 : Hints := []
def ir161 : IR := (.letE ⟨(.all 2), [(.var 0)]⟩
 (.call 10 [(.fld (.var 1) 0)] 1
 (.letE ⟨.atom, [(.var 2)]⟩
 (.letE ⟨.atom, [(.fld (.var 1) 1)]⟩
 (.letE ⟨.mk, [(.var 3), (.var 4)]⟩
 (.letE ⟨(.all 2), [(.var 5)]⟩
 (.letE ⟨.mk, [(.fld (.var 6) 0), (.fld (.var 6) 1)]⟩
 (.ret [(.var 7)]))))))))
/- loop.example/g00365/laws.toTombS -/
def sg137 : Sig := ⟨[.val], [((.sl (.pair (.sl (.int .u8)) (.pair (.int .i64) .unit))), (.own .sh))], false⟩
def hi137 : Hints := [((0, 3), ⟨[(4, .sh), (2, (.own .sh)), (3, (.own .sh))], [], []⟩)]
def ir137 : IR := (.letE ⟨.len, [(.var 0)]⟩
 (.letE ⟨.mk, [(.nil (.int .u8)), (.int .i64 (0))]⟩
 (.letE ⟨(.rep (.pair (.sl (.int .u8)) (.pair (.int .i64) .unit))), [(.var 1), (.var 2)]⟩
 (.label true
 (.letE ⟨.len, [(.var 0)]⟩
 (.letE ⟨(.bin .lss 3), [(.var 4), (.var 7)]⟩
 (.ite (.var 8)
 (.letE ⟨(.idx 2), [(.var 0), (.var 4)]⟩
 (.letE ⟨(.cells 0 2), [(.var 9)]⟩
 (.call 161 [(.var 10)] 1
 (.letE ⟨(.idx 2), [(.var 6), (.var 4)]⟩
 (.letE ⟨(.setE 2), [(.var 6), (.var 4), (.var 11)]⟩
 (.letE ⟨(.bin .add 3), [(.var 4), (.int .i64 (1))]⟩
 (.jump 0 [(.var 14), (.var 5), (.var 13)])))))))
 (.ret [(.var 6)]))))
 (.jump 0 [(.int .i64 (0)), (.nil (.pair (.sl (.int .u8)) (.pair (.int .i64) .unit))), (.var 3)])))))
/- loop.example/g00365/laws.toState -/
def sg77 : Sig := ⟨[.val], [((.pair (.int .i64) (.pair (.sl (.pair (.sl (.int .u8)) (.pair (.sl (.int .u8)) (.pair (.int .i64) (.pair (.int .i64) .unit))))) (.pair (.sl (.pair (.sl (.int .u8)) (.pair (.int .i64) .unit))) (.pair (.int .i64) (.pair (.sl (.pair (.int .i64) (.pair .bool .unit))) (.pair (.sl (.pair (.int .i64) (.pair (.int .i64) (.pair (.int .i64) (.pair (.int .i64) .unit))))) .unit)))))), (.pair .sh (.pair (.own .sh) (.pair (.own .sh) (.pair .sh (.pair (.own .sh) (.pair (.own .sh) .sh)))))))], false⟩
def hi77 : Hints := []
def ir77 : IR := (.letE ⟨(.all 6), [(.var 0)]⟩
 (.letE ⟨.atom, [(.fld (.var 1) 0)]⟩
 (.call 136 [(.fld (.var 1) 1)] 1
 (.letE ⟨.atom, [(.var 3)]⟩
 (.call 137 [(.fld (.var 1) 2)] 1
 (.letE ⟨.atom, [(.var 5)]⟩
 (.letE ⟨.atom, [(.fld (.var 1) 3)]⟩
 (.call 138 [(.fld (.var 1) 4)] 1
 (.letE ⟨.atom, [(.var 8)]⟩
 (.call 139 [(.fld (.var 1) 5)] 1
 (.letE ⟨.atom, [(.var 10)]⟩
 (.letE ⟨.mk, [(.var 2), (.var 4), (.var 6), (.var 7), (.var 9), (.var 11)]⟩
 (.letE ⟨(.all 6), [(.var 12)]⟩
 (.letE ⟨.mk, [(.fld (.var 13) 0), (.fld (.var 13) 1), (.fld (.var 13) 2), (.fld (.var 13) 3), (.fld (.var 13) 4), (.fld (.var 13) 5)]⟩
 (.ret [(.var 14)])))))))))))))))
/- loop.example/g00365/laws.toSnap -/
def sg27 : Sig := ⟨[.val], [((.pair (.int .i64) (.pair (.sl (.pair (.sl (.int .u8)) (.pair (.sl (.int .u8)) (.pair (.int .i64) (.pair (.int .i64) .unit))))) (.pair (.sl (.pair (.sl (.int .u8)) (.pair (.int .i64) .unit))) (.pair (.int .i64) (.pair (.sl (.pair (.int .i64) (.pair .bool .unit))) (.pair (.sl (.pair (.int .i64) (.pair (.int .i64) (.pair (.int .i64) (.pair (.int .i64) .unit))))) (.pair (.sl (.pair (.int .i64) (.pair (.int .i64) (.pair (.int .i64) (.pair (.sl (.int .u8)) (.pair (.sl (.int .u8)) (.pair (.int .i64) .unit))))))) .unit))))))), (.pair .sh (.pair (.own .sh) (.pair (.own .sh) (.pair .sh (.pair (.own .sh) (.pair (.own .sh) (.pair (.own .sh) .sh))))))))], false⟩
def hi27 : Hints := []
def ir27 : IR := (.letE ⟨(.all 7), [(.var 0)]⟩
 (.letE ⟨.mk, [(.fld (.var 1) 0), (.fld (.var 1) 1), (.fld (.var 1) 2), (.fld (.var 1) 3), (.fld (.var 1) 4), (.fld (.var 1) 5)]⟩
 (.call 77 [(.var 2)] 1
 (.letE ⟨(.all 6), [(.var 3)]⟩
 (.call 78 [(.fld (.var 1) 6)] 1
 (.letE ⟨.atom, [(.var 5)]⟩
 (.letE ⟨.mk, [(.fld (.var 4) 0), (.fld (.var 4) 1), (.fld (.var 4) 2), (.fld (.var 4) 3), (.fld (.var 4) 4), (.fld (.var 4) 5), (.var 6)]⟩
 (.letE ⟨(.all 7), [(.var 7)]⟩
 (.letE ⟨.mk, [(.fld (.var 8) 0), (.fld (.var 8) 1), (.fld (.var 8) 2), (.fld (.var 8) 3), (.fld (.var 8) 4), (.fld (.var 8) 5), (.fld (.var 8) 6)]⟩
 (.ret [(.var 9)]))))))))))
/- loop.example/g00365/laws.szOp -/
def sg159 : Sig := ⟨[.val, .val], [((.int .i64), .sh)], false⟩
def hi159 : Hints := []
def ir159 : IR := (.letE ⟨(.all 4), [(.var 0)]⟩
 (.call 34 [(.fld (.var 2) 1), (.var 1)] 1
 (.letE ⟨(.bin .lss 3), [(.var 3), (.int .i64 (0))]⟩
 (.ite (.var 4)
 (.ret [(.int .i64 (-1))])
 (.call 34 [(.fld (.var 2) 2), (.var 3)] 1
 (.letE ⟨(.bin .lss 3), [(.var 5), (.int .i64 (0))]⟩
 (.ite (.var 6)
 (.ret [(.int .i64 (-1))])
 (.ret [(.var 5)]))))))))
/- loop.example/g00365/laws.szCmd -/
def sg134 : Sig := ⟨[.val, .val], [((.int .i64), .sh)], false⟩
def hi134 : Hints := []
def ir134 : IR := (.letE ⟨(.all 6), [(.var 0)]⟩
 (.letE ⟨.mk, [(.fld (.var 2) 2), (.fld (.var 2) 3), (.fld (.var 2) 4), (.fld (.var 2) 5)]⟩
 (.call 159 [(.var 3), (.var 1)] 1
 (.letE ⟨(.bin .lss 3), [(.var 4), (.int .i64 (0))]⟩
 (.ite (.var 5)
 (.ret [(.int .i64 (-1))])
 (.ret [(.var 4)]))))))
/- loop.example/g00365/laws.szCmdS -/
def sg75 : Sig := ⟨[.val, .val], [((.int .i64), .sh)], false⟩
def hi75 : Hints := [((0, 5), ⟨[(1, .sh), (4, .sh), (5, .sh)], [], []⟩)]
def ir75 : IR := (.letE ⟨.len, [(.var 0)]⟩
 (.letE ⟨(.bin .sub 3), [(.var 1), (.var 2)]⟩
 (.letE ⟨(.bin .lss 3), [(.var 3), (.int .i64 (0))]⟩
 (.ite (.var 4)
 (.ret [(.int .i64 (-1))])
 (.label true
 (.letE ⟨.len, [(.var 0)]⟩
 (.letE ⟨(.bin .lss 3), [(.var 7), (.var 8)]⟩
 (.ite (.var 9)
 (.letE ⟨(.idx 6), [(.var 0), (.var 7)]⟩
 (.letE ⟨(.cells 0 6), [(.var 10)]⟩
 (.call 134 [(.var 11), (.var 5)] 1
 (.letE ⟨(.bin .lss 3), [(.var 12), (.int .i64 (0))]⟩
 (.ite (.var 13)
 (.ret [(.int .i64 (-1))])
 (.letE ⟨(.bin .add 3), [(.var 7), (.int .i64 (1))]⟩
 (.jump 0 [(.var 12), (.var 6), (.var 14)])))))))
 (.ret [(.var 5)]))))
 (.jump 0 [(.var 3), (.int .i64 (0)), (.int .i64 (0))]))))))
/- loop.example/g00365/laws.szTomb -/
def sg158 : Sig := ⟨[.val, .val], [((.int .i64), .sh)], false⟩
def hi158 : Hints := []
def ir158 : IR := (.letE ⟨(.all 2), [(.var 0)]⟩
 (.call 34 [(.fld (.var 2) 0), (.var 1)] 1
 (.letE ⟨(.bin .lss 3), [(.var 3), (.int .i64 (0))]⟩
 (.ite (.var 4)
 (.ret [(.int .i64 (-1))])
 (.ret [(.var 3)])))))
/- loop.example/g00365/laws.szTombS -/
def sg131 : Sig := ⟨[.val, .val], [((.int .i64), .sh)], false⟩
def hi131 : Hints := [((0, 5), ⟨[(1, .sh), (4, .sh), (5, .sh)], [], []⟩)]
def ir131 : IR := (.letE ⟨.len, [(.var 0)]⟩
 (.letE ⟨(.bin .sub 3), [(.var 1), (.var 2)]⟩
 (.letE ⟨(.bin .lss 3), [(.var 3), (.int .i64 (0))]⟩
 (.ite (.var 4)
 (.ret [(.int .i64 (-1))])
 (.label true
 (.letE ⟨.len, [(.var 0)]⟩
 (.letE ⟨(.bin .lss 3), [(.var 7), (.var 8)]⟩
 (.ite (.var 9)
 (.letE ⟨(.idx 2), [(.var 0), (.var 7)]⟩
 (.letE ⟨(.cells 0 2), [(.var 10)]⟩
 (.call 158 [(.var 11), (.var 5)] 1
 (.letE ⟨(.bin .lss 3), [(.var 12), (.int .i64 (0))]⟩
 (.ite (.var 13)
 (.ret [(.int .i64 (-1))])
 (.letE ⟨(.bin .add 3), [(.var 7), (.int .i64 (1))]⟩
 (.jump 0 [(.var 12), (.var 6), (.var 14)])))))))
 (.ret [(.var 5)]))))
 (.jump 0 [(.var 3), (.int .i64 (0)), (.int .i64 (0))]))))))
/- loop.example/g00365/laws.szState -/
def sg74 : Sig := ⟨[.val, .val], [((.int .i64), .sh)], false⟩
def hi74 : Hints := []
def ir74 : IR := (.letE ⟨(.all 6), [(.var 0)]⟩
 (.call 130 [(.fld (.var 2) 1), (.var 1)] 1
 (.letE ⟨(.bin .lss 3), [(.var 3), (.int .i64 (0))]⟩
 (.ite (.var 4)
 (.ret [(.int .i64 (-1))])
 (.call 131 [(.fld (.var 2) 2), (.var 3)] 1
 (.letE ⟨(.bin .lss 3), [(.var 5), (.int .i64 (0))]⟩
 (.ite (.var 6)
 (.ret [(.int .i64 (-1))])
 (.call 132 [(.fld (.var 2) 4), (.var 5)] 1
 (.letE ⟨(.bin .lss 3), [(.var 7), (.int .i64 (0))]⟩
 (.ite (.var 8)
 (.ret [(.int .i64 (-1))])
 (.call 133 [(.fld (.var 2) 5), (.var 7)] 1
 (.letE ⟨(.bin .lss 3), [(.var 9), (.int .i64 (0))]⟩
 (.ite (.var 10)
 (.ret [(.int .i64 (-1))])
 (.ret [(.var 9)]))))))))))))))
/- loop.example/g00365/laws.szSnap -/
def sg25 : Sig := ⟨[.val, .val], [((.int .i64), .sh)], false⟩
def hi25 : Hints := []
def ir25 : IR := (.letE ⟨(.all 7), [(.var 0)]⟩
 (.letE ⟨.mk, [(.fld (.var 2) 0), (.fld (.var 2) 1), (.fld (.var 2) 2), (.fld (.var 2) 3), (.fld (.var 2) 4), (.fld (.var 2) 5)]⟩
 (.call 74 [(.var 3), (.var 1)] 1
 (.letE ⟨(.bin .lss 3), [(.var 4), (.int .i64 (0))]⟩
 (.ite (.var 5)
 (.ret [(.int .i64 (-1))])
 (.call 75 [(.fld (.var 2) 6), (.var 4)] 1
 (.letE ⟨(.bin .lss 3), [(.var 6), (.int .i64 (0))]⟩
 (.ite (.var 7)
 (.ret [(.int .i64 (-1))])
 (.ret [(.var 6)])))))))))
/- loop.example/g00365/impl.OpOk -/
def sg144 : Sig := ⟨[.val], [(.bool, .sh)], false⟩
def hi144 : Hints := [((1, 19), ⟨[(2, .sh), (3, .sh), (4, .sh), (5, .sh), (6, .sh)], [], [7, 8, 9, 10, 11, 12, 13, 14, 15, 16, 17, 18, 19, 20, 21, 22, 23, 24]⟩)]
def ir144 : IR := (.letE ⟨(.all 4), [(.var 0)]⟩
 (.label false
 (.call 41 [(.fld (.var 1) 3), (.var 5), (.var 6)] 1
 (.ite (.var 7)
 (.ite (.var 3)
 (.call 60 [(.fld (.var 1) 1)] 1
 (.ite (.var 8)
 (.ite (.var 4)
 (.call 61 [(.fld (.var 1) 2)] 1
 (.ite (.var 9)
 (.ret [(.bool true)])
 (.letE ⟨(.un .not), [(.var 4)]⟩
 (.ite (.var 10)
 (.letE ⟨.len, [(.fld (.var 1) 2)]⟩
 (.letE ⟨(.bin .eql 3), [(.var 11), (.int .i64 (0))]⟩
 (.ret [(.var 12)])))
 (.ret [(.bool false)])))))
 (.letE ⟨(.un .not), [(.var 4)]⟩
 (.ite (.var 9)
 (.letE ⟨.len, [(.fld (.var 1) 2)]⟩
 (.letE ⟨(.bin .eql 3), [(.var 10), (.int .i64 (0))]⟩
 (.ret [(.var 11)])))
 (.ret [(.bool false)]))))
 (.letE ⟨(.un .not), [(.var 3)]⟩
 (.ite (.var 9)
 (.letE ⟨.len, [(.fld (.var 1) 1)]⟩
 (.letE ⟨(.bin .eql 3), [(.var 10), (.int .i64 (0))]⟩
 (.ite (.var 11)
 (.ite (.var 4)
 (.call 61 [(.fld (.var 1) 2)] 1
 (.ite (.var 12)
 (.ret [(.bool true)])
 (.letE ⟨(.un .not), [(.var 4)]⟩
 (.ite (.var 13)
 (.letE ⟨.len, [(.fld (.var 1) 2)]⟩
 (.letE ⟨(.bin .eql 3), [(.var 14), (.int .i64 (0))]⟩
 (.ret [(.var 15)])))
 (.ret [(.bool false)])))))
 (.letE ⟨(.un .not), [(.var 4)]⟩
 (.ite (.var 12)
 (.letE ⟨.len, [(.fld (.var 1) 2)]⟩
 (.letE ⟨(.bin .eql 3), [(.var 13), (.int .i64 (0))]⟩
 (.ret [(.var 14)])))
 (.ret [(.bool false)]))))
 (.ret [(.bool false)]))))
 (.ret [(.bool false)])))))
 (.letE ⟨(.un .not), [(.var 3)]⟩
 (.ite (.var 8)
 (.letE ⟨.len, [(.fld (.var 1) 1)]⟩
 (.letE ⟨(.bin .eql 3), [(.var 9), (.int .i64 (0))]⟩
 (.ite (.var 10)
 (.ite (.var 4)
 (.call 61 [(.fld (.var 1) 2)] 1
 (.ite (.var 11)
 (.ret [(.bool true)])
 (.letE ⟨(.un .not), [(.var 4)]⟩
 (.ite (.var 12)
 (.letE ⟨.len, [(.fld (.var 1) 2)]⟩
 (.letE ⟨(.bin .eql 3), [(.var 13), (.int .i64 (0))]⟩
 (.ret [(.var 14)])))
 (.ret [(.bool false)])))))
 (.letE ⟨(.un .not), [(.var 4)]⟩
 (.ite (.var 11)
 (.letE ⟨.len, [(.fld (.var 1) 2)]⟩
 (.letE ⟨(.bin .eql 3), [(.var 12), (.int .i64 (0))]⟩
 (.ret [(.var 13)])))
 (.ret [(.bool false)]))))
 (.ret [(.bool false)]))))
 (.ret [(.bool false)]))))
 (.ret [(.bool false)])))
 (.letE ⟨(.bin .eql 3), [(.fld (.var 1) 0), (.int .i64 (0))]⟩
 (.ite (.var 2)
 (.jump 0 [(.bool false), (.bool false), (.bool false), (.int .i64 (0)), (.int .i64 (0))])
 (.letE ⟨(.bin .eql 3), [(.fld (.var 1) 0), (.int .i64 (1))]⟩
 (.ite (.var 3)
 (.jump 0 [(.bool false), (.bool true), (.bool true), (.int .i64 (0)), (.int .i64 (0))])
 (.letE ⟨(.bin .eql 3), [(.fld (.var 1) 0), (.int .i64 (2))]⟩
 (.ite (.var 4)
 (.jump 0 [(.bool false), (.bool true), (.bool true), (.int .i64 (0)), (.int .i64 (1000000))])
 (.letE ⟨(.bin .eql 3), [(.fld (.var 1) 0), (.int .i64 (3))]⟩
 (.ite (.var 5)
 (.jump 0 [(.bool false), (.bool true), (.bool false), (.int .i64 (0)), (.int .i64 (0))])
 (.letE ⟨(.bin .eql 3), [(.fld (.var 1) 0), (.int .i64 (4))]⟩
 (.ite (.var 6)
 (.jump 0 [(.bool false), (.bool false), (.bool false), (.int .i64 (0)), (.int .i64 (1))])
 (.letE ⟨(.bin .eql 3), [(.fld (.var 1) 0), (.int .i64 (5))]⟩
 (.ite (.var 7)
 (.jump 0 [(.bool false), (.bool false), (.bool false), (.int .i64 (1)), (.int .i64 (1000000))])
 (.letE ⟨(.bin .eql 3), [(.fld (.var 1) 0), (.int .i64 (6))]⟩
 (.ite (.var 8)
 (.jump 0 [(.bool false), (.bool true), (.bool true), (.int .i64 (1)), (.int .i64 (1000000))])
 (.letE ⟨(.bin .eql 3), [(.fld (.var 1) 0), (.int .i64 (7))]⟩
 (.ite (.var 9)
 (.jump 0 [(.bool false), (.bool true), (.bool false), (.int .i64 (1)), (.int .i64 (1000000))])
 (.ret [(.bool false)])))))))))))))))))))
/- loop.example/g00365/impl.CmdOk -/
def sg81 : Sig := ⟨[.val], [(.bool, .sh)], false⟩
def hi81 : Hints := []
def ir81 : IR := (.letE ⟨(.all 6), [(.var 0)]⟩
 (.letE ⟨.mk, [(.fld (.var 1) 0), (.fld (.var 1) 1), (.fld (.var 1) 2), (.fld (.var 1) 3), (.fld (.var 1) 4), (.fld (.var 1) 5)]⟩
 (.call 143 [] 1
 (.call 142 [(.var 2), (.var 3)] 1
 (.ite (.var 4)
 (.ret [(.bool true)])
 (.call 41 [(.fld (.var 1) 0), (.int .i64 (0)), (.int .i64 (3))] 1
 (.ite (.var 5)
 (.call 41 [(.fld (.var 1) 1), (.int .i64 (1)), (.int .i64 (1000000))] 1
 (.ite (.var 6)
 (.letE ⟨.mk, [(.fld (.var 1) 2), (.fld (.var 1) 3), (.fld (.var 1) 4), (.fld (.var 1) 5)]⟩
 (.call 144 [(.var 7)] 1
 (.ret [(.var 8)])))
 (.ret [(.bool false)])))
 (.ret [(.bool false)]))))))))
/- loop.example/g00365/impl.SnapOk$1 -/
def sg80 : Sig := ⟨[.val], [(.bool, .sh)], false⟩
def hi80 : Hints := []
def ir80 : IR := (.letE ⟨(.all 6), [(.var 0)]⟩
 (.letE ⟨.mk, [(.fld (.var 1) 0), (.fld (.var 1) 1), (.fld (.var 1) 2), (.fld (.var 1) 3), (.fld (.var 1) 4), (.fld (.var 1) 5)]⟩
 (.call 81 [(.var 2)] 1
 (.letE ⟨(.un .not), [(.var 3)]⟩
 (.ret [(.var 4)])))))
/- slices.IndexFunc[[]loop.example/g00365/impl.Cmd,loop.example/g00365/impl.Cmd] -/
def sg141 : Sig := ⟨[.val, (.fn 80 0)], [((.int .i64), .sh)], false⟩
def hi141 : Hints := [((0, 2), ⟨[(4, .sh), (8, .sh)], [], []⟩)]
def ir141 : IR := (.letE ⟨.len, [(.var 0)]⟩
 (.label true
 (.letE ⟨(.bin .lss 3), [(.var 3), (.var 1)]⟩
 (.ite (.var 4)
 (.letE ⟨(.idx 6), [(.var 0), (.var 3)]⟩
 (.letE ⟨(.cells 0 6), [(.var 5)]⟩
 (.call 80 [(.var 6)] 1
 (.ite (.var 7)
 (.ret [(.var 3)])
 (.letE ⟨(.bin .add 3), [(.var 3), (.int .i64 (1))]⟩
 (.jump 0 [(.var 2), (.var 8)]))))))
 (.ret [(.int .i64 (-1))])))
 (.jump 0 [(.int .i64 (0)), (.int .i64 (0))])))
/- slices.ContainsFunc[[]loop.example/g00365/impl.Cmd,loop.example/g00365/impl.Cmd] -/
def sg79 : Sig := ⟨[.val, (.fn 80 0)], [(.bool, .sh)], false⟩
def hi79 : Hints := []
def ir79 : IR := (.call 141 [(.var 0)] 1
 (.letE ⟨(.bin .geq 3), [(.var 1), (.int .i64 (0))]⟩
 (.ret [(.var 2)])))
/- loop.example/g00365/impl.SnapOk -/
def sg28 : Sig := ⟨[.val], [(.bool, .sh)], false⟩
def hi28 : Hints := []
def ir28 : IR := (.letE ⟨(.all 7), [(.var 0)]⟩
 (.letE ⟨.mk, [(.fld (.var 1) 0), (.fld (.var 1) 1), (.fld (.var 1) 2), (.fld (.var 1) 3), (.fld (.var 1) 4), (.fld (.var 1) 5)]⟩
 (.call 20 [(.var 2)] 1
 (.ite (.var 3)
 (.letE ⟨.len, [(.fld (.var 1) 6)]⟩
 (.letE ⟨(.bin .sub 3), [(.int .i64 (1000000)), (.fld (.var 1) 0)]⟩
 (.letE ⟨.mn, [(.int .i64 (400)), (.var 5)]⟩
 (.letE ⟨(.bin .leq 3), [(.var 4), (.var 6)]⟩
 (.ite (.var 7)
 (.call 79 [(.fld (.var 1) 6)] 1
 (.letE ⟨(.un .not), [(.var 8)]⟩
 (.ret [(.var 9)])))
 (.ret [(.bool false)]))))))
 (.ret [(.bool false)])))))
/- loop.example/g00365/laws.FnExactSnapOk -/
def sg5 : Sig := ⟨[.val], [(.bool, .sh)], false⟩
def hi5 : Hints := []
def ir5 : IR := (.letE ⟨(.all 7), [(.var 0)]⟩
 (.letE ⟨.mk, [(.fld (.var 1) 0), (.fld (.var 1) 1), (.fld (.var 1) 2), (.fld (.var 1) 3), (.fld (.var 1) 4), (.fld (.var 1) 5), (.fld (.var 1) 6)]⟩
 (.call 25 [(.var 2), (.int .i64 (1048576))] 1
 (.letE ⟨(.bin .lss 3), [(.var 3), (.int .i64 (0))]⟩
 (.ite (.var 4)
 (.ret [(.bool true)])
 (.letE ⟨.mk, [(.fld (.var 1) 0), (.fld (.var 1) 1), (.fld (.var 1) 2), (.fld (.var 1) 3), (.fld (.var 1) 4), (.fld (.var 1) 5), (.fld (.var 1) 6)]⟩
 (.call 27 [(.var 5)] 1
 (.call 26 [(.var 6)] 1
 (.letE ⟨.mk, [(.fld (.var 1) 0), (.fld (.var 1) 1), (.fld (.var 1) 2), (.fld (.var 1) 3), (.fld (.var 1) 4), (.fld (.var 1) 5), (.fld (.var 1) 6)]⟩
 (.call 27 [(.var 8)] 1
 (.letE ⟨(.all 7), [(.var 9)]⟩
 (.letE ⟨.mk, [(.fld (.var 10) 0), (.fld (.var 10) 1), (.fld (.var 10) 2), (.fld (.var 10) 3), (.fld (.var 10) 4), (.fld (.var 10) 5), (.fld (.var 10) 6)]⟩
 (.call 28 [(.var 11)] 1
 (.letE ⟨(.beq true), [(.var 12), (.var 7)]⟩
 (.ite (.var 13)
 (.ret [(.bool false)])
 (.letE ⟨.mk, [(.fld (.var 1) 0), (.fld (.var 1) 1), (.fld (.var 1) 2), (.fld (.var 1) 3), (.fld (.var 1) 4), (.fld (.var 1) 5), (.fld (.var 1) 6)]⟩
 (.call 27 [(.var 14)] 1
 (.letE ⟨.mk, [(.fld (.var 10) 0), (.fld (.var 10) 1), (.fld (.var 10) 2), (.fld (.var 10) 3), (.fld (.var 10) 4), (.fld (.var 10) 5), (.fld (.var 10) 6)]⟩
 (.call 29 [(.var 16), (.var 15)] 1
 (.letE ⟨(.un .not), [(.var 17)]⟩
 (.ite (.var 18)
 (.ret [(.bool false)])
 (.ret [(.bool true)]))))))))))))))))))))))
def Sn : Nat → Option Sig := fun n => match n with
  | 63 => some sgCmp
  | _ => none
def Bn : Fns := fun n ds => match n with
  | 63 => cmpB ds
  | _ => none
set_option maxHeartbeats 8000000 in
theorem walk63 (A0 A1 : Option Addr) (n0 n1 c0 c1 : Nat) (r : Int) (w : World) (h : (Extern.BytealgCompare.compare #[.slice A0 n0 c0, .slice A1 n1 c1]).run Try.prog w = .ok (.int .i64 r) w) :
    Calls Try.prog 63 #[.slice A0 n0 c0, .slice A1 n1 c1] w fun e w' => e = .returned (.int .i64 r) ∧ Ext w w' [] := by
  go_enter Try.func63, Try.ntmps63
  go_wp2
  rw [run_callFunc_extern Try.func117 (by kernel_rfl) (by kernel_rfl) (by kernel_rfl) (e := Extern.BytealgCompare.compare) (by kernel_rfl), h]
  simp only [Result.andThen]
  rw [Oper.upon_value]
  go_wp2
  go_ret
  exact ⟨rfl, Ext.refl _ _⟩
theorem nat : ∀ f s, Sn f = some s → Con Try.prog Bn f s := by
  intro f s h
  unfold Sn at h
  split at h
  · simp only [Option.some.injEq] at h
    subst h
    exact con_cmp (fun _ => rfl) walk63
  · cases h
def T : Nat → Option (Sig × IR) := fun n => match n with
  | 167 => some (sg167, ir167)
  | 151 => some (sg151, ir151)
  | 88 => some (sg88, ir88)
  | 150 => some (sg150, ir150)
  | 87 => some (sg87, ir87)
  | 13 => some (sg13, ir13)
  | 148 => some (sg148, ir148)
  | 85 => some (sg85, ir85)
  | 143 => some (sg143, ir143)
  | 69 => some (sg69, ir69)
  | 121 => some (sg121, ir121)
  | 119 => some (sg119, ir119)
  | 118 => some (sg118, ir118)
  | 64 => some (sg64, ir64)
  | 116 => some (sg116, ir116)
  | 61 => some (sg61, ir61)
  | 41 => some (sg41, ir41)
  | 59 => some (sg59, ir59)
  | 58 => some (sg58, ir58)
  | 57 => some (sg57, ir57)
  | 56 => some (sg56, ir56)
  | 55 => some (sg55, ir55)
  | 54 => some (sg54, ir54)
  | 19 => some (sg19, ir19)
  | 172 => some (sg172, ir172)
  | 163 => some (sg163, ir163)
  | 139 => some (sg139, ir139)
  | 162 => some (sg162, ir162)
  | 138 => some (sg138, ir138)
  | 10 => some (sg10, ir10)
  | 160 => some (sg160, ir160)
  | 136 => some (sg136, ir136)
  | 133 => some (sg133, ir133)
  | 132 => some (sg132, ir132)
  | 34 => some (sg34, ir34)
  | 157 => some (sg157, ir157)
  | 130 => some (sg130, ir130)
  | 166 => some (sg166, ir166)
  | 145 => some (sg145, ir145)
  | 82 => some (sg82, ir82)
  | 149 => some (sg149, ir149)
  | 86 => some (sg86, ir86)
  | 31 => some (sg31, ir31)
  | 29 => some (sg29, ir29)
  | 165 => some (sg165, ir165)
  | 142 => some (sg142, ir142)
  | 120 => some (sg120, ir120)
  | 65 => some (sg65, ir65)
  | 115 => some (sg115, ir115)
  | 62 => some (sg62, ir62)
  | 60 => some (sg60, ir60)
  | 20 => some (sg20, ir20)
  | 135 => some (sg135, ir135)
  | 76 => some (sg76, ir76)
  | 26 => some (sg26, ir26)
  | 164 => some (sg164, ir164)
  | 140 => some (sg140, ir140)
  | 78 => some (sg78, ir78)
  | 161 => some (sg161, ir161)
  | 137 => some (sg137, ir137)
  | 77 => some (sg77, ir77)
  | 27 => some (sg27, ir27)
  | 159 => some (sg159, ir159)
  | 134 => some (sg134, ir134)
  | 75 => some (sg75, ir75)
  | 158 => some (sg158, ir158)
  | 131 => some (sg131, ir131)
  | 74 => some (sg74, ir74)
  | 25 => some (sg25, ir25)
  | 144 => some (sg144, ir144)
  | 81 => some (sg81, ir81)
  | 80 => some (sg80, ir80)
  | 141 => some (sg141, ir141)
  | 79 => some (sg79, ir79)
  | 28 => some (sg28, ir28)
  | 5 => some (sg5, ir5)
  | _ => none
abbrev Lv (N k : Nat) : Fns := level Sn Bn T N k
def Cs : Nat → Option Sig := shapes Sn T
theorem t167 : fnIR Try.prog Cs hi167 Try.f167 sg167 = some ir167 := by kernel_rfl
theorem t151 : fnIR Try.prog Cs hi151 Try.f151 sg151 = some ir151 := by kernel_rfl
theorem t88 : fnIR Try.prog Cs hi88 Try.f88 sg88 = some ir88 := by kernel_rfl
theorem t150 : fnIR Try.prog Cs hi150 Try.f150 sg150 = some ir150 := by kernel_rfl
theorem t87 : fnIR Try.prog Cs hi87 Try.f87 sg87 = some ir87 := by kernel_rfl
theorem t13 : fnIR Try.prog Cs hi13 Try.f13 sg13 = some ir13 := by kernel_rfl
theorem t148 : fnIR Try.prog Cs hi148 Try.f148 sg148 = some ir148 := by kernel_rfl
theorem t85 : fnIR Try.prog Cs hi85 Try.f85 sg85 = some ir85 := by kernel_rfl
theorem t143 : fnIR Try.prog Cs hi143 Try.f143 sg143 = some ir143 := by kernel_rfl
theorem t69 : fnIR Try.prog Cs hi69 Try.f69 sg69 = some ir69 := by kernel_rfl
theorem t121 : fnIR Try.prog Cs hi121 Try.f121 sg121 = some ir121 := by kernel_rfl
theorem t119 : fnIR Try.prog Cs hi119 Try.f119 sg119 = some ir119 := by kernel_rfl
theorem t118 : fnIR Try.prog Cs hi118 Try.f118 sg118 = some ir118 := by kernel_rfl
theorem t64 : fnIR Try.prog Cs hi64 Try.f64 sg64 = some ir64 := by kernel_rfl
theorem t116 : fnIR Try.prog Cs hi116 Try.f116 sg116 = some ir116 := by kernel_rfl
theorem t61 : fnIR Try.prog Cs hi61 Try.f61 sg61 = some ir61 := by kernel_rfl
theorem t41 : fnIR Try.prog Cs hi41 Try.f41 sg41 = some ir41 := by kernel_rfl
theorem t59 : fnIR Try.prog Cs hi59 Try.f59 sg59 = some ir59 := by kernel_rfl
theorem t58 : fnIR Try.prog Cs hi58 Try.f58 sg58 = some ir58 := by kernel_rfl
theorem t57 : fnIR Try.prog Cs hi57 Try.f57 sg57 = some ir57 := by kernel_rfl
theorem t56 : fnIR Try.prog Cs hi56 Try.f56 sg56 = some ir56 := by kernel_rfl
theorem t55 : fnIR Try.prog Cs hi55 Try.f55 sg55 = some ir55 := by kernel_rfl
theorem t54 : fnIR Try.prog Cs hi54 Try.f54 sg54 = some ir54 := by kernel_rfl
theorem t19 : fnIR Try.prog Cs hi19 Try.f19 sg19 = some ir19 := by kernel_rfl
theorem t172 : fnIR Try.prog Cs hi172 Try.f172 sg172 = some ir172 := by kernel_rfl
theorem t163 : fnIR Try.prog Cs hi163 Try.f163 sg163 = some ir163 := by kernel_rfl
theorem t139 : fnIR Try.prog Cs hi139 Try.f139 sg139 = some ir139 := by kernel_rfl
theorem t162 : fnIR Try.prog Cs hi162 Try.f162 sg162 = some ir162 := by kernel_rfl
theorem t138 : fnIR Try.prog Cs hi138 Try.f138 sg138 = some ir138 := by kernel_rfl
theorem t10 : fnIR Try.prog Cs hi10 Try.f10 sg10 = some ir10 := by kernel_rfl
theorem t160 : fnIR Try.prog Cs hi160 Try.f160 sg160 = some ir160 := by kernel_rfl
theorem t136 : fnIR Try.prog Cs hi136 Try.f136 sg136 = some ir136 := by kernel_rfl
theorem t133 : fnIR Try.prog Cs hi133 Try.f133 sg133 = some ir133 := by kernel_rfl
theorem t132 : fnIR Try.prog Cs hi132 Try.f132 sg132 = some ir132 := by kernel_rfl
theorem t34 : fnIR Try.prog Cs hi34 Try.f34 sg34 = some ir34 := by kernel_rfl
theorem t157 : fnIR Try.prog Cs hi157 Try.f157 sg157 = some ir157 := by kernel_rfl
theorem t130 : fnIR Try.prog Cs hi130 Try.f130 sg130 = some ir130 := by kernel_rfl
theorem t166 : fnIR Try.prog Cs hi166 Try.f166 sg166 = some ir166 := by kernel_rfl
theorem t145 : fnIR Try.prog Cs hi145 Try.f145 sg145 = some ir145 := by kernel_rfl
theorem t82 : fnIR Try.prog Cs hi82 Try.f82 sg82 = some ir82 := by kernel_rfl
theorem t149 : fnIR Try.prog Cs hi149 Try.f149 sg149 = some ir149 := by kernel_rfl
theorem t86 : fnIR Try.prog Cs hi86 Try.f86 sg86 = some ir86 := by kernel_rfl
theorem t31 : fnIR Try.prog Cs hi31 Try.f31 sg31 = some ir31 := by kernel_rfl
theorem t29 : fnIR Try.prog Cs hi29 Try.f29 sg29 = some ir29 := by kernel_rfl
theorem t165 : fnIR Try.prog Cs hi165 Try.f165 sg165 = some ir165 := by kernel_rfl
theorem t142 : fnIR Try.prog Cs hi142 Try.f142 sg142 = some ir142 := by kernel_rfl
theorem t120 : fnIR Try.prog Cs hi120 Try.f120 sg120 = some ir120 := by kernel_rfl
theorem t65 : fnIR Try.prog Cs hi65 Try.f65 sg65 = some ir65 := by kernel_rfl
theorem t115 : fnIR Try.prog Cs hi115 Try.f115 sg115 = some ir115 := by kernel_rfl
theorem t62 : fnIR Try.prog Cs hi62 Try.f62 sg62 = some ir62 := by kernel_rfl
theorem t60 : fnIR Try.prog Cs hi60 Try.f60 sg60 = some ir60 := by kernel_rfl
theorem t20 : fnIR Try.prog Cs hi20 Try.f20 sg20 = some ir20 := by kernel_rfl
theorem t135 : fnIR Try.prog Cs hi135 Try.f135 sg135 = some ir135 := by kernel_rfl
theorem t76 : fnIR Try.prog Cs hi76 Try.f76 sg76 = some ir76 := by kernel_rfl
theorem t26 : fnIR Try.prog Cs hi26 Try.f26 sg26 = some ir26 := by kernel_rfl
theorem t164 : fnIR Try.prog Cs hi164 Try.f164 sg164 = some ir164 := by kernel_rfl
theorem t140 : fnIR Try.prog Cs hi140 Try.f140 sg140 = some ir140 := by kernel_rfl
theorem t78 : fnIR Try.prog Cs hi78 Try.f78 sg78 = some ir78 := by kernel_rfl
theorem t161 : fnIR Try.prog Cs hi161 Try.f161 sg161 = some ir161 := by kernel_rfl
theorem t137 : fnIR Try.prog Cs hi137 Try.f137 sg137 = some ir137 := by kernel_rfl
theorem t77 : fnIR Try.prog Cs hi77 Try.f77 sg77 = some ir77 := by kernel_rfl
theorem t27 : fnIR Try.prog Cs hi27 Try.f27 sg27 = some ir27 := by kernel_rfl
theorem t159 : fnIR Try.prog Cs hi159 Try.f159 sg159 = some ir159 := by kernel_rfl
theorem t134 : fnIR Try.prog Cs hi134 Try.f134 sg134 = some ir134 := by kernel_rfl
theorem t75 : fnIR Try.prog Cs hi75 Try.f75 sg75 = some ir75 := by kernel_rfl
theorem t158 : fnIR Try.prog Cs hi158 Try.f158 sg158 = some ir158 := by kernel_rfl
theorem t131 : fnIR Try.prog Cs hi131 Try.f131 sg131 = some ir131 := by kernel_rfl
theorem t74 : fnIR Try.prog Cs hi74 Try.f74 sg74 = some ir74 := by kernel_rfl
theorem t25 : fnIR Try.prog Cs hi25 Try.f25 sg25 = some ir25 := by kernel_rfl
theorem t144 : fnIR Try.prog Cs hi144 Try.f144 sg144 = some ir144 := by kernel_rfl
theorem t81 : fnIR Try.prog Cs hi81 Try.f81 sg81 = some ir81 := by kernel_rfl
theorem t80 : fnIR Try.prog Cs hi80 Try.f80 sg80 = some ir80 := by kernel_rfl
theorem t141 : fnIR Try.prog Cs hi141 Try.f141 sg141 = some ir141 := by kernel_rfl
theorem t79 : fnIR Try.prog Cs hi79 Try.f79 sg79 = some ir79 := by kernel_rfl
theorem t28 : fnIR Try.prog Cs hi28 Try.f28 sg28 = some ir28 := by kernel_rfl
theorem t5 : fnIR Try.prog Cs hi5 Try.f5 sg5 = some ir5 := by kernel_rfl
theorem tab : ∀ f s ir, T f = some (s, ir) → ∃ fn H, Try.prog.funcs[f]? = some fn ∧ fnIR Try.prog (shapes Sn T) H fn s = some ir := by
  intro f s ir h
  unfold T at h
  split at h
  · simp only [Option.some.injEq, Prod.mk.injEq] at h
    obtain ⟨rfl, rfl⟩ := h
    exact ⟨Try.f167, hi167, Try.func167, t167⟩
  · simp only [Option.some.injEq, Prod.mk.injEq] at h
    obtain ⟨rfl, rfl⟩ := h
    exact ⟨Try.f151, hi151, Try.func151, t151⟩
  · simp only [Option.some.injEq, Prod.mk.injEq] at h
    obtain ⟨rfl, rfl⟩ := h
    exact ⟨Try.f88, hi88, Try.func88, t88⟩
  · simp only [Option.some.injEq, Prod.mk.injEq] at h
    obtain ⟨rfl, rfl⟩ := h
    exact ⟨Try.f150, hi150, Try.func150, t150⟩
  · simp only [Option.some.injEq, Prod.mk.injEq] at h
    obtain ⟨rfl, rfl⟩ := h
    exact ⟨Try.f87, hi87, Try.func87, t87⟩
  · simp only [Option.some.injEq, Prod.mk.injEq] at h
    obtain ⟨rfl, rfl⟩ := h
    exact ⟨Try.f13, hi13, Try.func13, t13⟩
  · simp only [Option.some.injEq, Prod.mk.injEq] at h
    obtain ⟨rfl, rfl⟩ := h
    exact ⟨Try.f148, hi148, Try.func148, t148⟩
  · simp only [Option.some.injEq, Prod.mk.injEq] at h
    obtain ⟨rfl, rfl⟩ := h
    exact ⟨Try.f85, hi85, Try.func85, t85⟩
  · simp only [Option.some.injEq, Prod.mk.injEq] at h
    obtain ⟨rfl, rfl⟩ := h
    exact ⟨Try.f143, hi143, Try.func143, t143⟩
  · simp only [Option.some.injEq, Prod.mk.injEq] at h
    obtain ⟨rfl, rfl⟩ := h
    exact ⟨Try.f69, hi69, Try.func69, t69⟩
  · simp only [Option.some.injEq, Prod.mk.injEq] at h
    obtain ⟨rfl, rfl⟩ := h
    exact ⟨Try.f121, hi121, Try.func121, t121⟩
  · simp only [Option.some.injEq, Prod.mk.injEq] at h
    obtain ⟨rfl, rfl⟩ := h
    exact ⟨Try.f119, hi119, Try.func119, t119⟩
  · simp only [Option.some.injEq, Prod.mk.injEq] at h
    obtain ⟨rfl, rfl⟩ := h
    exact ⟨Try.f118, hi118, Try.func118, t118⟩
  · simp only [Option.some.injEq, Prod.mk.injEq] at h
    obtain ⟨rfl, rfl⟩ := h
    exact ⟨Try.f64, hi64, Try.func64, t64⟩
  · simp only [Option.some.injEq, Prod.mk.injEq] at h
    obtain ⟨rfl, rfl⟩ := h
    exact ⟨Try.f116, hi116, Try.func116, t116⟩
  · simp only [Option.some.injEq, Prod.mk.injEq] at h
    obtain ⟨rfl, rfl⟩ := h
    exact ⟨Try.f61, hi61, Try.func61, t61⟩
  · simp only [Option.some.injEq, Prod.mk.injEq] at h
    obtain ⟨rfl, rfl⟩ := h
    exact ⟨Try.f41, hi41, Try.func41, t41⟩
  · simp only [Option.some.injEq, Prod.mk.injEq] at h
    obtain ⟨rfl, rfl⟩ := h
    exact ⟨Try.f59, hi59, Try.func59, t59⟩
  · simp only [Option.some.injEq, Prod.mk.injEq] at h
    obtain ⟨rfl, rfl⟩ := h
    exact ⟨Try.f58, hi58, Try.func58, t58⟩
  · simp only [Option.some.injEq, Prod.mk.injEq] at h
    obtain ⟨rfl, rfl⟩ := h
    exact ⟨Try.f57, hi57, Try.func57, t57⟩
  · simp only [Option.some.injEq, Prod.mk.injEq] at h
    obtain ⟨rfl, rfl⟩ := h
    exact ⟨Try.f56, hi56, Try.func56, t56⟩
  · simp only [Option.some.injEq, Prod.mk.injEq] at h
    obtain ⟨rfl, rfl⟩ := h
    exact ⟨Try.f55, hi55, Try.func55, t55⟩
  · simp only [Option.some.injEq, Prod.mk.injEq] at h
    obtain ⟨rfl, rfl⟩ := h
    exact ⟨Try.f54, hi54, Try.func54, t54⟩
  · simp only [Option.some.injEq, Prod.mk.injEq] at h
    obtain ⟨rfl, rfl⟩ := h
    exact ⟨Try.f19, hi19, Try.func19, t19⟩
  · simp only [Option.some.injEq, Prod.mk.injEq] at h
    obtain ⟨rfl, rfl⟩ := h
    exact ⟨Try.f172, hi172, Try.func172, t172⟩
  · simp only [Option.some.injEq, Prod.mk.injEq] at h
    obtain ⟨rfl, rfl⟩ := h
    exact ⟨Try.f163, hi163, Try.func163, t163⟩
  · simp only [Option.some.injEq, Prod.mk.injEq] at h
    obtain ⟨rfl, rfl⟩ := h
    exact ⟨Try.f139, hi139, Try.func139, t139⟩
  · simp only [Option.some.injEq, Prod.mk.injEq] at h
    obtain ⟨rfl, rfl⟩ := h
    exact ⟨Try.f162, hi162, Try.func162, t162⟩
  · simp only [Option.some.injEq, Prod.mk.injEq] at h
    obtain ⟨rfl, rfl⟩ := h
    exact ⟨Try.f138, hi138, Try.func138, t138⟩
  · simp only [Option.some.injEq, Prod.mk.injEq] at h
    obtain ⟨rfl, rfl⟩ := h
    exact ⟨Try.f10, hi10, Try.func10, t10⟩
  · simp only [Option.some.injEq, Prod.mk.injEq] at h
    obtain ⟨rfl, rfl⟩ := h
    exact ⟨Try.f160, hi160, Try.func160, t160⟩
  · simp only [Option.some.injEq, Prod.mk.injEq] at h
    obtain ⟨rfl, rfl⟩ := h
    exact ⟨Try.f136, hi136, Try.func136, t136⟩
  · simp only [Option.some.injEq, Prod.mk.injEq] at h
    obtain ⟨rfl, rfl⟩ := h
    exact ⟨Try.f133, hi133, Try.func133, t133⟩
  · simp only [Option.some.injEq, Prod.mk.injEq] at h
    obtain ⟨rfl, rfl⟩ := h
    exact ⟨Try.f132, hi132, Try.func132, t132⟩
  · simp only [Option.some.injEq, Prod.mk.injEq] at h
    obtain ⟨rfl, rfl⟩ := h
    exact ⟨Try.f34, hi34, Try.func34, t34⟩
  · simp only [Option.some.injEq, Prod.mk.injEq] at h
    obtain ⟨rfl, rfl⟩ := h
    exact ⟨Try.f157, hi157, Try.func157, t157⟩
  · simp only [Option.some.injEq, Prod.mk.injEq] at h
    obtain ⟨rfl, rfl⟩ := h
    exact ⟨Try.f130, hi130, Try.func130, t130⟩
  · simp only [Option.some.injEq, Prod.mk.injEq] at h
    obtain ⟨rfl, rfl⟩ := h
    exact ⟨Try.f166, hi166, Try.func166, t166⟩
  · simp only [Option.some.injEq, Prod.mk.injEq] at h
    obtain ⟨rfl, rfl⟩ := h
    exact ⟨Try.f145, hi145, Try.func145, t145⟩
  · simp only [Option.some.injEq, Prod.mk.injEq] at h
    obtain ⟨rfl, rfl⟩ := h
    exact ⟨Try.f82, hi82, Try.func82, t82⟩
  · simp only [Option.some.injEq, Prod.mk.injEq] at h
    obtain ⟨rfl, rfl⟩ := h
    exact ⟨Try.f149, hi149, Try.func149, t149⟩
  · simp only [Option.some.injEq, Prod.mk.injEq] at h
    obtain ⟨rfl, rfl⟩ := h
    exact ⟨Try.f86, hi86, Try.func86, t86⟩
  · simp only [Option.some.injEq, Prod.mk.injEq] at h
    obtain ⟨rfl, rfl⟩ := h
    exact ⟨Try.f31, hi31, Try.func31, t31⟩
  · simp only [Option.some.injEq, Prod.mk.injEq] at h
    obtain ⟨rfl, rfl⟩ := h
    exact ⟨Try.f29, hi29, Try.func29, t29⟩
  · simp only [Option.some.injEq, Prod.mk.injEq] at h
    obtain ⟨rfl, rfl⟩ := h
    exact ⟨Try.f165, hi165, Try.func165, t165⟩
  · simp only [Option.some.injEq, Prod.mk.injEq] at h
    obtain ⟨rfl, rfl⟩ := h
    exact ⟨Try.f142, hi142, Try.func142, t142⟩
  · simp only [Option.some.injEq, Prod.mk.injEq] at h
    obtain ⟨rfl, rfl⟩ := h
    exact ⟨Try.f120, hi120, Try.func120, t120⟩
  · simp only [Option.some.injEq, Prod.mk.injEq] at h
    obtain ⟨rfl, rfl⟩ := h
    exact ⟨Try.f65, hi65, Try.func65, t65⟩
  · simp only [Option.some.injEq, Prod.mk.injEq] at h
    obtain ⟨rfl, rfl⟩ := h
    exact ⟨Try.f115, hi115, Try.func115, t115⟩
  · simp only [Option.some.injEq, Prod.mk.injEq] at h
    obtain ⟨rfl, rfl⟩ := h
    exact ⟨Try.f62, hi62, Try.func62, t62⟩
  · simp only [Option.some.injEq, Prod.mk.injEq] at h
    obtain ⟨rfl, rfl⟩ := h
    exact ⟨Try.f60, hi60, Try.func60, t60⟩
  · simp only [Option.some.injEq, Prod.mk.injEq] at h
    obtain ⟨rfl, rfl⟩ := h
    exact ⟨Try.f20, hi20, Try.func20, t20⟩
  · simp only [Option.some.injEq, Prod.mk.injEq] at h
    obtain ⟨rfl, rfl⟩ := h
    exact ⟨Try.f135, hi135, Try.func135, t135⟩
  · simp only [Option.some.injEq, Prod.mk.injEq] at h
    obtain ⟨rfl, rfl⟩ := h
    exact ⟨Try.f76, hi76, Try.func76, t76⟩
  · simp only [Option.some.injEq, Prod.mk.injEq] at h
    obtain ⟨rfl, rfl⟩ := h
    exact ⟨Try.f26, hi26, Try.func26, t26⟩
  · simp only [Option.some.injEq, Prod.mk.injEq] at h
    obtain ⟨rfl, rfl⟩ := h
    exact ⟨Try.f164, hi164, Try.func164, t164⟩
  · simp only [Option.some.injEq, Prod.mk.injEq] at h
    obtain ⟨rfl, rfl⟩ := h
    exact ⟨Try.f140, hi140, Try.func140, t140⟩
  · simp only [Option.some.injEq, Prod.mk.injEq] at h
    obtain ⟨rfl, rfl⟩ := h
    exact ⟨Try.f78, hi78, Try.func78, t78⟩
  · simp only [Option.some.injEq, Prod.mk.injEq] at h
    obtain ⟨rfl, rfl⟩ := h
    exact ⟨Try.f161, hi161, Try.func161, t161⟩
  · simp only [Option.some.injEq, Prod.mk.injEq] at h
    obtain ⟨rfl, rfl⟩ := h
    exact ⟨Try.f137, hi137, Try.func137, t137⟩
  · simp only [Option.some.injEq, Prod.mk.injEq] at h
    obtain ⟨rfl, rfl⟩ := h
    exact ⟨Try.f77, hi77, Try.func77, t77⟩
  · simp only [Option.some.injEq, Prod.mk.injEq] at h
    obtain ⟨rfl, rfl⟩ := h
    exact ⟨Try.f27, hi27, Try.func27, t27⟩
  · simp only [Option.some.injEq, Prod.mk.injEq] at h
    obtain ⟨rfl, rfl⟩ := h
    exact ⟨Try.f159, hi159, Try.func159, t159⟩
  · simp only [Option.some.injEq, Prod.mk.injEq] at h
    obtain ⟨rfl, rfl⟩ := h
    exact ⟨Try.f134, hi134, Try.func134, t134⟩
  · simp only [Option.some.injEq, Prod.mk.injEq] at h
    obtain ⟨rfl, rfl⟩ := h
    exact ⟨Try.f75, hi75, Try.func75, t75⟩
  · simp only [Option.some.injEq, Prod.mk.injEq] at h
    obtain ⟨rfl, rfl⟩ := h
    exact ⟨Try.f158, hi158, Try.func158, t158⟩
  · simp only [Option.some.injEq, Prod.mk.injEq] at h
    obtain ⟨rfl, rfl⟩ := h
    exact ⟨Try.f131, hi131, Try.func131, t131⟩
  · simp only [Option.some.injEq, Prod.mk.injEq] at h
    obtain ⟨rfl, rfl⟩ := h
    exact ⟨Try.f74, hi74, Try.func74, t74⟩
  · simp only [Option.some.injEq, Prod.mk.injEq] at h
    obtain ⟨rfl, rfl⟩ := h
    exact ⟨Try.f25, hi25, Try.func25, t25⟩
  · simp only [Option.some.injEq, Prod.mk.injEq] at h
    obtain ⟨rfl, rfl⟩ := h
    exact ⟨Try.f144, hi144, Try.func144, t144⟩
  · simp only [Option.some.injEq, Prod.mk.injEq] at h
    obtain ⟨rfl, rfl⟩ := h
    exact ⟨Try.f81, hi81, Try.func81, t81⟩
  · simp only [Option.some.injEq, Prod.mk.injEq] at h
    obtain ⟨rfl, rfl⟩ := h
    exact ⟨Try.f80, hi80, Try.func80, t80⟩
  · simp only [Option.some.injEq, Prod.mk.injEq] at h
    obtain ⟨rfl, rfl⟩ := h
    exact ⟨Try.f141, hi141, Try.func141, t141⟩
  · simp only [Option.some.injEq, Prod.mk.injEq] at h
    obtain ⟨rfl, rfl⟩ := h
    exact ⟨Try.f79, hi79, Try.func79, t79⟩
  · simp only [Option.some.injEq, Prod.mk.injEq] at h
    obtain ⟨rfl, rfl⟩ := h
    exact ⟨Try.f28, hi28, Try.func28, t28⟩
  · simp only [Option.some.injEq, Prod.mk.injEq] at h
    obtain ⟨rfl, rfl⟩ := h
    exact ⟨Try.f5, hi5, Try.func5, t5⟩
  · cases h
theorem con (N k f : Nat) (s : Sig) (h : shapes Sn T f = some s) : Con Try.prog (Lv N k) f s := level_con (by kernel_rfl) nat tab k f s h
end Go.Proofs.Ytecleaangfcloab.VtFnExactSnapOk
