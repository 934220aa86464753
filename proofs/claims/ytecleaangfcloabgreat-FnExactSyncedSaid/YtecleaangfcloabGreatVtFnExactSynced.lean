/- The functions that FnExactSynced reaches, as texts of the language of values, and that these are what the code says. Definitions and lemmas, no statement. -/
import Derived.Test.YtecleaangfcloabGreatProg
import Derived.Test.YtecleaangfcloabGreatVmNat
import Derived.KernelRfl
import Derived.WalkKit
import Derived.Tactics
namespace Go.Proofs.YtecleaangfcloabGreat.VtFnExactSynced
open Go.Vm Go.RowKit
set_option maxRecDepth 100000
set_option linter.unusedVariables false
set_option linter.unusedSimpArgs false
/- loop.example/g00365/laws.eqReply -/
def sg77 : Sig := ⟨[.val, .val], [(.bool, .sh)], false⟩
def hi77 : Hints := []
def ir77 : IR := (.letE ⟨(.all 2), [(.var 0)]⟩
 (.letE ⟨(.all 2), [(.var 1)]⟩
 (.letE ⟨(.bin .neq 3), [(.fld (.var 2) 0), (.fld (.var 3) 0)]⟩
 (.ite (.var 4)
 (.ret [(.bool false)])
 (.letE ⟨(.bin .neq 3), [(.fld (.var 2) 1), (.fld (.var 3) 1)]⟩
 (.ite (.var 5)
 (.ret [(.bool false)])
 (.ret [(.bool true)])))))))
/- loop.example/g00365/laws.eqLast -/
def sg107 : Sig := ⟨[.val, .val], [(.bool, .sh)], false⟩
def hi107 : Hints := []
def ir107 : IR := (.letE ⟨(.all 4), [(.var 0)]⟩
 (.letE ⟨(.all 4), [(.var 1)]⟩
 (.letE ⟨(.bin .neq 3), [(.fld (.var 2) 0), (.fld (.var 3) 0)]⟩
 (.ite (.var 4)
 (.ret [(.bool false)])
 (.letE ⟨(.bin .neq 3), [(.fld (.var 2) 1), (.fld (.var 3) 1)]⟩
 (.ite (.var 5)
 (.ret [(.bool false)])
 (.letE ⟨.mk, [(.fld (.var 2) 2), (.fld (.var 2) 3)]⟩
 (.letE ⟨.mk, [(.fld (.var 3) 2), (.fld (.var 3) 3)]⟩
 (.call 77 [(.var 6), (.var 7)] 1
 (.letE ⟨(.un .not), [(.var 8)]⟩
 (.ite (.var 9)
 (.ret [(.bool false)])
 (.ret [(.bool true)]))))))))))))
/- loop.example/g00365/laws.eqLastS -/
def sg51 : Sig := ⟨[.val, .val], [(.bool, .sh)], false⟩
def hi51 : Hints := [((0, 4), ⟨[(4, .sh), (5, .sh)], [], []⟩)]
def ir51 : IR := (.letE ⟨.len, [(.var 0)]⟩
 (.letE ⟨.len, [(.var 1)]⟩
 (.letE ⟨(.bin .neq 3), [(.var 2), (.var 3)]⟩
 (.ite (.var 4)
 (.ret [(.bool false)])
 (.label true
 (.letE ⟨.len, [(.var 0)]⟩
 (.letE ⟨(.bin .lss 3), [(.var 6), (.var 7)]⟩
 (.ite (.var 8)
 (.letE ⟨(.idx 4), [(.var 0), (.var 6)]⟩
 (.letE ⟨(.cells 0 4), [(.var 9)]⟩
 (.letE ⟨(.idx 4), [(.var 1), (.var 6)]⟩
 (.letE ⟨(.cells 0 4), [(.var 11)]⟩
 (.call 107 [(.var 10), (.var 12)] 1
 (.letE ⟨(.un .not), [(.var 13)]⟩
 (.ite (.var 14)
 (.ret [(.bool false)])
 (.letE ⟨(.bin .add 3), [(.var 6), (.int .i64 (1))]⟩
 (.jump 0 [(.var 5), (.var 15)])))))))))
 (.ret [(.bool true)]))))
 (.jump 0 [(.bool false), (.int .i64 (0))]))))))
/- loop.example/g00365/laws.eqSession -/
def sg106 : Sig := ⟨[.val, .val], [(.bool, .sh)], false⟩
def hi106 : Hints := []
def ir106 : IR := (.letE ⟨(.all 2), [(.var 0)]⟩
 (.letE ⟨(.all 2), [(.var 1)]⟩
 (.letE ⟨(.bin .neq 3), [(.fld (.var 2) 0), (.fld (.var 3) 0)]⟩
 (.ite (.var 4)
 (.ret [(.bool false)])
 (.letE ⟨(.beq true), [(.fld (.var 2) 1), (.fld (.var 3) 1)]⟩
 (.ite (.var 5)
 (.ret [(.bool false)])
 (.ret [(.bool true)])))))))
/- loop.example/g00365/laws.eqSessionS -/
def sg50 : Sig := ⟨[.val, .val], [(.bool, .sh)], false⟩
def hi50 : Hints := [((0, 4), ⟨[(4, .sh), (5, .sh)], [], []⟩)]
def ir50 : IR := (.letE ⟨.len, [(.var 0)]⟩
 (.letE ⟨.len, [(.var 1)]⟩
 (.letE ⟨(.bin .neq 3), [(.var 2), (.var 3)]⟩
 (.ite (.var 4)
 (.ret [(.bool false)])
 (.label true
 (.letE ⟨.len, [(.var 0)]⟩
 (.letE ⟨(.bin .lss 3), [(.var 6), (.var 7)]⟩
 (.ite (.var 8)
 (.letE ⟨(.idx 2), [(.var 0), (.var 6)]⟩
 (.letE ⟨(.cells 0 2), [(.var 9)]⟩
 (.letE ⟨(.idx 2), [(.var 1), (.var 6)]⟩
 (.letE ⟨(.cells 0 2), [(.var 11)]⟩
 (.call 106 [(.var 10), (.var 12)] 1
 (.letE ⟨(.un .not), [(.var 13)]⟩
 (.ite (.var 14)
 (.ret [(.bool false)])
 (.letE ⟨(.bin .add 3), [(.var 6), (.int .i64 (1))]⟩
 (.jump 0 [(.var 5), (.var 15)])))))))))
 (.ret [(.bool true)]))))
 (.jump 0 [(.bool false), (.int .i64 (0))]))))))
/- loop.example/g00365/laws.eqByteS -/
def sg46 : Sig := ⟨[.val, .val], [(.bool, .sh)], false⟩
def hi46 : Hints := [((0, 4), ⟨[(4, .sh), (5, .sh)], [], []⟩)]
def ir46 : IR := (.letE ⟨.len, [(.var 0)]⟩
 (.letE ⟨.len, [(.var 1)]⟩
 (.letE ⟨(.bin .neq 3), [(.var 2), (.var 3)]⟩
 (.ite (.var 4)
 (.ret [(.bool false)])
 (.label true
 (.letE ⟨.len, [(.var 0)]⟩
 (.letE ⟨(.bin .lss 3), [(.var 6), (.var 7)]⟩
 (.ite (.var 8)
 (.letE ⟨(.idx 1), [(.var 0), (.var 6)]⟩
 (.letE ⟨.a, [(.fld (.var 9) 0)]⟩
 (.letE ⟨(.idx 1), [(.var 1), (.var 6)]⟩
 (.letE ⟨.a, [(.fld (.var 11) 0)]⟩
 (.letE ⟨(.bin .neq 5), [(.var 10), (.var 12)]⟩
 (.ite (.var 13)
 (.ret [(.bool false)])
 (.letE ⟨(.bin .add 3), [(.var 6), (.int .i64 (1))]⟩
 (.jump 0 [(.var 5), (.var 14)]))))))))
 (.ret [(.bool true)]))))
 (.jump 0 [(.bool false), (.int .i64 (0))]))))))
/- slices.Clone[[]byte,byte] -/
def sg60 : Sig := ⟨[.val], [((.sl (.int .u8)), (.own .sh))], false⟩
def hi60 : Hints := []
def ir60 : IR := (.letE ⟨.len, [(.var 0)]⟩
 (.amb false (.var 0)
 (.ret [(.nil (.int .u8))])
 (.letE ⟨(.lst (.int .u8)), []⟩
 (.letE ⟨(.app (.int .u8)), [(.var 2), (.var 0)]⟩
 (.ret [(.var 3)])))))
/- bytes.Equal -/
def sg59 : Sig := ⟨[.val, .val], [(.bool, .sh)], false⟩
def hi59 : Hints := []
def ir59 : IR := (.letE ⟨.text, [(.var 0)]⟩
 (.letE ⟨.text, [(.var 1)]⟩
 (.letE ⟨(.bin .eql 9), [(.var 2), (.var 3)]⟩
 (.ret [(.var 4)]))))
/- (loop.example/g00365/impl.State).tomb$1 -/
def sg148 : Sig := ⟨[.val, .rd], [(.bool, .sh)], false⟩
def hi148 : Hints := []
def ir148 : IR := (.letE ⟨(.all 2), [(.var 0)]⟩
 (.letE ⟨.a, [(.fld (.var 1) 0)]⟩
 (.call 59 [(.fld (.var 2) 0), (.var 3)] 1
 (.ret [(.var 4)]))))
/- (loop.example/g00365/impl.State).row$1 -/
def sg123 : Sig := ⟨[.val, .val], [((.int .i64), .sh)], false⟩
def hi123 : Hints := []
def ir123 : IR := (.letE ⟨(.all 4), [(.var 0)]⟩
 (.call 111 [(.fld (.var 2) 0), (.var 1)] 1
 (.ret [(.var 3)])))
/- slices.BinarySearchFunc[[]loop.example/g00365/impl.Row,loop.example/g00365/impl.Row,[]byte] -/
def sg122 : Sig := ⟨[.val, .val, (.fn 123 0)], [((.int .i64), .sh), (.bool, .sh)], false⟩
def hi122 : Hints := [((0, 3), ⟨[(9, .sh), (10, .sh)], [], []⟩)]
def ir122 : IR := (.letE ⟨.len, [(.var 0)]⟩
 (.label true
 (.letE ⟨(.bin .lss 3), [(.var 3), (.var 4)]⟩
 (.ite (.var 5)
 (.letE ⟨(.bin .add 3), [(.var 3), (.var 4)]⟩
 (.letE ⟨(.conv .u64), [(.var 6)]⟩
 (.letE ⟨(.bin .shr 201), [(.var 7), (.int .u64 (1))]⟩
 (.letE ⟨(.conv .i64), [(.var 8)]⟩
 (.letE ⟨(.idx 4), [(.var 0), (.var 9)]⟩
 (.letE ⟨(.cells 0 4), [(.var 10)]⟩
 (.call 123 [(.var 11), (.var 1)] 1
 (.letE ⟨(.bin .lss 3), [(.var 12), (.int .i64 (0))]⟩
 (.ite (.var 13)
 (.letE ⟨(.bin .add 3), [(.var 9), (.int .i64 (1))]⟩
 (.jump 0 [(.var 14), (.var 4)]))
 (.jump 0 [(.var 3), (.var 9)]))))))))))
 (.letE ⟨(.bin .lss 3), [(.var 3), (.var 2)]⟩
 (.ite (.var 6)
 (.letE ⟨(.idx 4), [(.var 0), (.var 3)]⟩
 (.letE ⟨(.cells 0 4), [(.var 7)]⟩
 (.call 123 [(.var 8), (.var 1)] 1
 (.letE ⟨(.bin .eql 3), [(.var 9), (.int .i64 (0))]⟩
 (.ret [(.var 3), (.var 10)])))))
 (.ret [(.var 3), (.bool false)])))))
 (.jump 0 [(.int .i64 (0)), (.var 2)])))
/- (loop.example/g00365/impl.State).row -/
def sg61 : Sig := ⟨[.val, .val], [((.int .i64), .sh), (.bool, .sh)], false⟩
def hi61 : Hints := []
def ir61 : IR := (.letE ⟨(.all 6), [(.var 0)]⟩
 (.call 122 [(.fld (.var 2) 1), (.var 1)] 2
 (.ret [(.var 3), (.var 4)])))
/- (loop.example/g00365/impl.State).session$1 -/
def sg146 : Sig := ⟨[.val, .rd], [(.bool, .sh)], false⟩
def hi146 : Hints := []
def ir146 : IR := (.letE ⟨(.all 2), [(.var 0)]⟩
 (.letE ⟨.a, [(.fld (.var 1) 0)]⟩
 (.letE ⟨(.bin .eql 3), [(.fld (.var 2) 0), (.var 3)]⟩
 (.ret [(.var 4)]))))
/- loop.example/g00365/impl.isValue -/
def sg114 : Sig := ⟨[.val], [(.bool, .sh)], false⟩
def hi114 : Hints := []
def ir114 : IR := (.letE ⟨.len, [(.var 0)]⟩
 (.letE ⟨(.bin .leq 3), [(.var 1), (.int .i64 (20))]⟩
 (.ret [(.var 2)])))
/- (loop.example/g00365/impl.Check).late -/
def sg144 : Sig := ⟨[.val], [(.bool, .sh)], false⟩
def hi144 : Hints := []
def ir144 : IR := (.letE ⟨(.all 6), [(.var 0)]⟩
 (.letE ⟨(.bin .gtr 3), [(.fld (.var 1) 1), (.int .i64 (0))]⟩
 (.ite (.var 2)
 (.letE ⟨(.bin .geq 3), [(.fld (.var 1) 4), (.fld (.var 1) 1)]⟩
 (.ret [(.var 3)]))
 (.ret [(.bool false)]))))
/- slices.Concat[[]byte,byte] -/
def sg120 : Sig := ⟨[.val], [((.sl (.int .u8)), (.own .sh))], false⟩
def hi120 : Hints := [((0, 11), ⟨[(6, (.own .sh)), (27, .sh), (2, (.own .sh))], [], []⟩), ((0, 3), ⟨[(3, .sh), (11, .sh), (2, (.own .sh))], [], []⟩)]
def ir120 : IR := (.letE ⟨.len, [(.var 0)]⟩
 (.label true
 (.letE ⟨(.bin .lss 3), [(.var 3), (.var 1)]⟩
 (.ite (.var 5)
 (.letE ⟨(.idx 1), [(.var 0), (.var 3)]⟩
 (.letE ⟨.a, [(.fld (.var 6) 0)]⟩
 (.letE ⟨.len, [(.var 7)]⟩
 (.letE ⟨(.bin .add 3), [(.var 2), (.var 8)]⟩
 (.letE ⟨(.bin .lss 3), [(.var 9), (.int .i64 (0))]⟩
 (.ite (.var 10)
 .fail
 (.letE ⟨(.bin .add 3), [(.var 3), (.int .i64 (1))]⟩
 (.jump 0 [(.var 9), (.var 11), (.var 4)]))))))))
 (.call 149 [(.var 2)] 1
 (.letE ⟨.len, [(.var 0)]⟩
 (.label true
 (.letE ⟨(.bin .lss 3), [(.var 9), (.var 7)]⟩
 (.ite (.var 11)
 (.letE ⟨(.idx 1), [(.var 0), (.var 9)]⟩
 (.letE ⟨.a, [(.fld (.var 12) 0)]⟩
 (.letE ⟨(.app (.int .u8)), [(.var 8), (.var 13)]⟩
 (.letE ⟨(.bin .add 3), [(.var 9), (.int .i64 (1))]⟩
 (.jump 1 [(.var 14), (.var 15), (.var 10)])))))
 (.ret [(.var 8)])))
 (.jump 1 [(.var 6), (.int .i64 (0)), (.var 4)]))))))
 (.jump 0 [(.int .i64 (0)), (.int .i64 (0)), (.nil (.int .u8))])))
/- (loop.example/g00365/impl.Local).ahead -/
def sg56 : Sig := ⟨[.val], [((.sl (.int .u8)), (.own .sh))], false⟩
def hi56 : Hints := []
def ir56 : IR := (.letE ⟨(.all 2), [(.var 0)]⟩
 (.letE ⟨(.lst (.int .u8)), [(.int .u8 (115)), (.int .u8 (118)), (.int .u8 (99)), (.int .u8 (47))]⟩
 (.letE ⟨(.idx 1), [(.var 2), (.int .i64 (0))]⟩
 (.letE ⟨(.lst (.int .u8)), [(.int .u8 (47))]⟩
 (.letE ⟨(.idx 1), [(.var 4), (.int .i64 (0))]⟩
 (.letE ⟨(.lst (.sl (.int .u8))), [(.var 2), (.fld (.var 1) 0), (.var 4)]⟩
 (.call 120 [(.var 6)] 1
 (.ret [(.var 7)]))))))))
/- (loop.example/g00365/impl.Local).catalogKey -/
def sg110 : Sig := ⟨[.val, .val], [((.sl (.int .u8)), (.own .sh))], false⟩
def hi110 : Hints := []
def ir110 : IR := (.letE ⟨(.all 2), [(.var 0)]⟩
 (.letE ⟨.mk, [(.fld (.var 2) 0), (.fld (.var 2) 1)]⟩
 (.call 56 [(.var 3)] 1
 (.letE ⟨(.lst (.sl (.int .u8))), [(.var 4), (.var 1)]⟩
 (.call 120 [(.var 5)] 1
 (.ret [(.var 6)]))))))
/- slices.Index[[]byte,byte] -/
def sg166 : Sig := ⟨[.val, .val], [((.int .i64), .sh)], false⟩
def hi166 : Hints := [((0, 2), ⟨[(4, .sh), (8, .sh)], [], []⟩)]
def ir166 : IR := (.letE ⟨.len, [(.var 0)]⟩
 (.label true
 (.letE ⟨(.bin .lss 3), [(.var 4), (.var 2)]⟩
 (.ite (.var 5)
 (.letE ⟨(.idx 1), [(.var 0), (.var 4)]⟩
 (.letE ⟨.a, [(.fld (.var 6) 0)]⟩
 (.letE ⟨(.bin .eql 5), [(.var 1), (.var 7)]⟩
 (.ite (.var 8)
 (.ret [(.var 4)])
 (.letE ⟨(.bin .add 3), [(.var 4), (.int .i64 (1))]⟩
 (.jump 0 [(.var 3), (.var 9)]))))))
 (.ret [(.int .i64 (-1))])))
 (.jump 0 [(.int .i64 (0)), (.int .i64 (0))])))
/- slices.Contains[[]byte,byte] -/
def sg142 : Sig := ⟨[.val, .val], [(.bool, .sh)], false⟩
def hi142 : Hints := []
def ir142 : IR := (.call 166 [(.var 0), (.var 1)] 1
 (.letE ⟨(.bin .geq 3), [(.var 2), (.int .i64 (0))]⟩
 (.ret [(.var 3)])))
/- loop.example/g00365/impl.within -/
def sg113 : Sig := ⟨[.val, .val, .val], [(.bool, .sh)], false⟩
def hi113 : Hints := []
def ir113 : IR := (.letE ⟨(.bin .leq 3), [(.var 1), (.var 0)]⟩
 (.ite (.var 3)
 (.letE ⟨(.bin .leq 3), [(.var 0), (.var 2)]⟩
 (.ret [(.var 4)]))
 (.ret [(.bool false)])))
/- loop.example/g00365/impl.KeyOk -/
def sg109 : Sig := ⟨[.val], [(.bool, .sh)], false⟩
def hi109 : Hints := [((0, 2), ⟨[(2, .sh), (7, .sh)], [], []⟩)]
def ir109 : IR := (.letE ⟨.len, [(.var 0)]⟩
 (.label true
 (.letE ⟨(.bin .lss 3), [(.var 3), (.var 1)]⟩
 (.ite (.var 4)
 (.letE ⟨(.idx 1), [(.var 0), (.var 3)]⟩
 (.letE ⟨.a, [(.fld (.var 5) 0)]⟩
 (.letE ⟨(.bin .lss 5), [(.var 6), (.int .u8 (97))]⟩
 (.ite (.var 7)
 (.letE ⟨(.bin .neq 5), [(.var 6), (.int .u8 (47))]⟩
 (.ite (.var 8)
 (.ret [(.bool false)])
 (.letE ⟨(.bin .add 3), [(.var 3), (.int .i64 (1))]⟩
 (.jump 0 [(.var 2), (.var 9)]))))
 (.letE ⟨(.bin .gtr 5), [(.var 6), (.int .u8 (122))]⟩
 (.ite (.var 8)
 (.letE ⟨(.bin .neq 5), [(.var 6), (.int .u8 (47))]⟩
 (.ite (.var 9)
 (.ret [(.bool false)])
 (.letE ⟨(.bin .add 3), [(.var 3), (.int .i64 (1))]⟩
 (.jump 0 [(.var 2), (.var 10)]))))
 (.letE ⟨(.bin .add 3), [(.var 3), (.int .i64 (1))]⟩
 (.jump 0 [(.var 2), (.var 9)]))))))))
 (.letE ⟨.len, [(.var 0)]⟩
 (.call 113 [(.var 5), (.int .i64 (1)), (.int .i64 (20))] 1
 (.ret [(.var 6)])))))
 (.jump 0 [(.bool false), (.int .i64 (0))])))
/- loop.example/g00365/impl.isPlain -/
def sg108 : Sig := ⟨[.val], [(.bool, .sh)], false⟩
def hi108 : Hints := []
def ir108 : IR := (.call 109 [(.var 0)] 1
 (.ite (.var 1)
 (.call 142 [(.var 0), (.int .u8 (47))] 1
 (.letE ⟨(.un .not), [(.var 2)]⟩
 (.ret [(.var 3)])))
 (.ret [(.bool false)])))
/- loop.example/g00365/spec.l14in -/
def sg97 : Sig := ⟨[.val, .val], [((.int .i64), .sh)], false⟩
def hi97 : Hints := [((0, 2), ⟨[(4, .sh), (5, .sh)], [], []⟩)]
def ir97 : IR := (.label true
 (.letE ⟨.len, [(.var 0)]⟩
 (.letE ⟨(.bin .lss 3), [(.var 3), (.var 4)]⟩
 (.ite (.var 5)
 (.letE ⟨(.idx 2), [(.var 0), (.var 3)]⟩
 (.letE ⟨.a, [(.fld (.var 6) 0)]⟩
 (.letE ⟨.text, [(.var 7)]⟩
 (.letE ⟨.text, [(.var 1)]⟩
 (.letE ⟨(.bin .eql 9), [(.var 8), (.var 9)]⟩
 (.ite (.var 10)
 (.ret [(.var 3)])
 (.letE ⟨(.bin .add 3), [(.var 3), (.int .i64 (1))]⟩
 (.jump 0 [(.var 2), (.var 11)]))))))))
 (.ret [(.int .i64 (-1))]))))
 (.jump 0 [(.int .i64 (0)), (.int .i64 (0))]))
/- loop.example/g00365/spec.HasPrefix -/
def sg96 : Sig := ⟨[.val, .val], [(.bool, .sh)], false⟩
def hi96 : Hints := []
def ir96 : IR := (.letE ⟨.len, [(.var 0)]⟩
 (.letE ⟨.len, [(.var 1)]⟩
 (.letE ⟨(.bin .geq 3), [(.var 2), (.var 3)]⟩
 (.ite (.var 4)
 (.letE ⟨.len, [(.var 1)]⟩
 (.letE ⟨(.sub 1 false true), [(.var 0), (.var 5)]⟩
 (.letE ⟨.text, [(.var 6)]⟩
 (.letE ⟨.text, [(.var 1)]⟩
 (.letE ⟨(.bin .eql 9), [(.var 7), (.var 8)]⟩
 (.ret [(.var 9)]))))))
 (.ret [(.bool false)])))))
/- loop.example/g00365/spec.StatusText -/
def sg137 : Sig := ⟨[.val], [((.sl (.int .u8)), (.own .sh))], false⟩
def hi137 : Hints := []
def ir137 : IR := (.letE ⟨(.bin .lss 3), [(.var 0), (.int .i64 (0))]⟩
 (.ite (.var 1)
 (.ret [(.nil (.int .u8))])
 (.letE ⟨(.bin .gtr 3), [(.var 0), (.int .i64 (2))]⟩
 (.ite (.var 2)
 (.ret [(.nil (.int .u8))])
 (.letE ⟨(.lst .str), [(.str [112, 97, 115, 115, 105, 110, 103]), (.str [119, 97, 114, 110, 105, 110, 103]), (.str [99, 114, 105, 116, 105, 99, 97, 108])]⟩
 (.letE ⟨(.idx 1), [(.var 3), (.var 0)]⟩
 (.letE ⟨(.idx 1), [(.var 3), (.var 0)]⟩
 (.letE ⟨.a, [(.fld (.var 5) 0)]⟩
 (.letE ⟨.bytes, [(.var 6)]⟩
 (.ret [(.var 7)]))))))))))
/- loop.example/g00365/spec.l2tomb -/
def sg94 : Sig := ⟨[.val, .val], [((.int .i64), .sh)], false⟩
def hi94 : Hints := [((0, 2), ⟨[(4, .sh), (5, .sh)], [], []⟩)]
def ir94 : IR := (.letE ⟨(.all 6), [(.var 0)]⟩
 (.label true
 (.letE ⟨.len, [(.fld (.var 2) 2)]⟩
 (.letE ⟨(.bin .lss 3), [(.var 4), (.var 5)]⟩
 (.ite (.var 6)
 (.letE ⟨(.idx 2), [(.fld (.var 2) 2), (.var 4)]⟩
 (.letE ⟨.a, [(.fld (.var 7) 0)]⟩
 (.letE ⟨.text, [(.var 8)]⟩
 (.letE ⟨.text, [(.var 1)]⟩
 (.letE ⟨(.bin .eql 9), [(.var 9), (.var 10)]⟩
 (.ite (.var 11)
 (.ret [(.var 4)])
 (.letE ⟨(.bin .add 3), [(.var 4), (.int .i64 (1))]⟩
 (.jump 0 [(.var 3), (.var 12)]))))))))
 (.ret [(.int .i64 (-1))]))))
 (.jump 0 [(.int .i64 (0)), (.int .i64 (0))])))
/- loop.example/g00365/spec.l2row -/
def sg93 : Sig := ⟨[.val, .val], [((.int .i64), .sh)], false⟩
def hi93 : Hints := [((0, 2), ⟨[(4, .sh), (5, .sh)], [], []⟩)]
def ir93 : IR := (.letE ⟨(.all 6), [(.var 0)]⟩
 (.label true
 (.letE ⟨.len, [(.fld (.var 2) 1)]⟩
 (.letE ⟨(.bin .lss 3), [(.var 4), (.var 5)]⟩
 (.ite (.var 6)
 (.letE ⟨(.idx 4), [(.fld (.var 2) 1), (.var 4)]⟩
 (.letE ⟨.a, [(.fld (.var 7) 0)]⟩
 (.letE ⟨.text, [(.var 8)]⟩
 (.letE ⟨.text, [(.var 1)]⟩
 (.letE ⟨(.bin .eql 9), [(.var 9), (.var 10)]⟩
 (.ite (.var 11)
 (.ret [(.var 4)])
 (.letE ⟨(.bin .add 3), [(.var 4), (.int .i64 (1))]⟩
 (.jump 0 [(.var 3), (.var 12)]))))))))
 (.ret [(.int .i64 (-1))]))))
 (.jump 0 [(.int .i64 (0)), (.int .i64 (0))])))
/- loop.example/g00365/spec.l2sess -/
def sg92 : Sig := ⟨[.val, .val], [((.int .i64), .sh)], false⟩
def hi92 : Hints := [((0, 2), ⟨[(4, .sh), (5, .sh)], [], []⟩)]
def ir92 : IR := (.letE ⟨(.all 6), [(.var 0)]⟩
 (.label true
 (.letE ⟨.len, [(.fld (.var 2) 4)]⟩
 (.letE ⟨(.bin .lss 3), [(.var 4), (.var 5)]⟩
 (.ite (.var 6)
 (.letE ⟨(.idx 2), [(.fld (.var 2) 4), (.var 4)]⟩
 (.letE ⟨.a, [(.fld (.var 7) 0)]⟩
 (.letE ⟨(.bin .eql 3), [(.var 8), (.var 1)]⟩
 (.ite (.var 9)
 (.ret [(.var 4)])
 (.letE ⟨(.bin .add 3), [(.var 4), (.int .i64 (1))]⟩
 (.jump 0 [(.var 3), (.var 10)]))))))
 (.ret [(.int .i64 (-1))]))))
 (.jump 0 [(.int .i64 (0)), (.int .i64 (0))])))
/- loop.example/g00365/spec.l2val -/
def sg91 : Sig := ⟨[.val], [(.bool, .sh)], false⟩
def hi91 : Hints := []
def ir91 : IR := (.letE ⟨.len, [(.var 0)]⟩
 (.letE ⟨(.bin .leq 3), [(.var 1), (.int .i64 (20))]⟩
 (.ret [(.var 2)])))
/- loop.example/g00365/spec.l2index -/
def sg90 : Sig := ⟨[.val], [(.bool, .sh)], false⟩
def hi90 : Hints := []
def ir90 : IR := (.letE ⟨(.bin .geq 3), [(.var 0), (.int .i64 (0))]⟩
 (.ite (.var 1)
 (.letE ⟨(.bin .leq 3), [(.var 0), (.int .i64 (1000000))]⟩
 (.ret [(.var 2)]))
 (.ret [(.bool false)])))
/- loop.example/g00365/spec.l14key -/
def sg88 : Sig := ⟨[.val, .val], [((.sl (.int .u8)), (.own .sh))], false⟩
def hi88 : Hints := []
def ir88 : IR := (.letE ⟨(.lst (.int .u8)), [(.int .u8 (115)), (.int .u8 (118)), (.int .u8 (99)), (.int .u8 (47))]⟩
 (.letE ⟨(.idx 1), [(.var 2), (.int .i64 (0))]⟩
 (.letE ⟨(.app (.int .u8)), [(.var 2), (.var 0)]⟩
 (.letE ⟨(.lst (.int .u8)), [(.int .u8 (47))]⟩
 (.letE ⟨(.app (.int .u8)), [(.var 4), (.var 5)]⟩
 (.letE ⟨(.app (.int .u8)), [(.var 6), (.var 1)]⟩
 (.ret [(.var 7)])))))))
/- loop.example/g00365/spec.l2key -/
def sg87 : Sig := ⟨[.val], [(.bool, .sh)], false⟩
def hi87 : Hints := [((0, 4), ⟨[(2, .sh), (3, .sh)], [], []⟩)]
def ir87 : IR := (.letE ⟨.len, [(.var 0)]⟩
 (.letE ⟨(.bin .lss 3), [(.var 1), (.int .i64 (1))]⟩
 (.ite (.var 2)
 (.ret [(.bool false)])
 (.letE ⟨.len, [(.var 0)]⟩
 (.letE ⟨(.bin .gtr 3), [(.var 3), (.int .i64 (20))]⟩
 (.ite (.var 4)
 (.ret [(.bool false)])
 (.label true
 (.letE ⟨.len, [(.var 0)]⟩
 (.letE ⟨(.bin .lss 3), [(.var 6), (.var 7)]⟩
 (.ite (.var 8)
 (.letE ⟨(.idx 1), [(.var 0), (.var 6)]⟩
 (.letE ⟨.a, [(.fld (.var 9) 0)]⟩
 (.letE ⟨(.bin .lss 5), [(.var 10), (.int .u8 (97))]⟩
 (.ite (.var 11)
 (.letE ⟨(.idx 1), [(.var 0), (.var 6)]⟩
 (.letE ⟨.a, [(.fld (.var 12) 0)]⟩
 (.letE ⟨(.bin .neq 5), [(.var 13), (.int .u8 (47))]⟩
 (.ite (.var 14)
 (.ret [(.bool false)])
 (.letE ⟨(.bin .add 3), [(.var 6), (.int .i64 (1))]⟩
 (.jump 0 [(.var 5), (.var 15)]))))))
 (.letE ⟨(.idx 1), [(.var 0), (.var 6)]⟩
 (.letE ⟨.a, [(.fld (.var 12) 0)]⟩
 (.letE ⟨(.bin .gtr 5), [(.var 13), (.int .u8 (122))]⟩
 (.ite (.var 14)
 (.letE ⟨(.idx 1), [(.var 0), (.var 6)]⟩
 (.letE ⟨.a, [(.fld (.var 15) 0)]⟩
 (.letE ⟨(.bin .neq 5), [(.var 16), (.int .u8 (47))]⟩
 (.ite (.var 17)
 (.ret [(.bool false)])
 (.letE ⟨(.bin .add 3), [(.var 6), (.int .i64 (1))]⟩
 (.jump 0 [(.var 5), (.var 18)]))))))
 (.letE ⟨(.bin .add 3), [(.var 6), (.int .i64 (1))]⟩
 (.jump 0 [(.var 5), (.var 15)]))))))))))
 (.ret [(.bool true)]))))
 (.jump 0 [(.bool false), (.int .i64 (0))]))))))))
/- loop.example/g00365/spec.l14part -/
def sg86 : Sig := ⟨[.val], [(.bool, .sh)], false⟩
def hi86 : Hints := [((0, 2), ⟨[(2, .sh), (3, .sh)], [], []⟩)]
def ir86 : IR := (.label true
 (.letE ⟨.len, [(.var 0)]⟩
 (.letE ⟨(.bin .lss 3), [(.var 2), (.var 3)]⟩
 (.ite (.var 4)
 (.letE ⟨(.idx 1), [(.var 0), (.var 2)]⟩
 (.letE ⟨.a, [(.fld (.var 5) 0)]⟩
 (.letE ⟨(.bin .eql 5), [(.var 6), (.int .u8 (47))]⟩
 (.ite (.var 7)
 (.ret [(.bool false)])
 (.letE ⟨(.bin .add 3), [(.var 2), (.int .i64 (1))]⟩
 (.jump 0 [(.var 1), (.var 8)]))))))
 (.call 87 [(.var 0)] 1
 (.ret [(.var 5)])))))
 (.jump 0 [(.bool false), (.int .i64 (0))]))
/- loop.example/g00365/laws.toReply -/
def sg140 : Sig := ⟨[.val], [((.pair (.int .i64) (.pair (.int .i64) .unit)), .sh)], false⟩
def hi140 : Hints := []
def ir140 : IR := (.letE ⟨(.all 2), [(.var 0)]⟩
 (.letE ⟨.atom, [(.fld (.var 1) 0)]⟩
 (.letE ⟨.atom, [(.fld (.var 1) 1)]⟩
 (.letE ⟨.mk, [(.var 2), (.var 3)]⟩
 (.letE ⟨(.all 2), [(.var 4)]⟩
 (.letE ⟨.mk, [(.fld (.var 5) 0), (.fld (.var 5) 1)]⟩
 (.ret [(.var 6)])))))))
/- loop.example/g00365/laws.toLast -/
def sg102 : Sig := ⟨[.val], [((.pair (.int .i64) (.pair (.int .i64) (.pair (.int .i64) (.pair (.int .i64) .unit)))), .sh)], false⟩
def hi102 : Hints := []
def ir102 : IR := (.letE ⟨(.all 4), [(.var 0)]⟩
 (.letE ⟨.atom, [(.fld (.var 1) 0)]⟩
 (.letE ⟨.atom, [(.fld (.var 1) 1)]⟩
 (.letE ⟨.mk, [(.fld (.var 1) 2), (.fld (.var 1) 3)]⟩
 (.call 140 [(.var 4)] 1
 (.letE ⟨(.all 2), [(.var 5)]⟩
 (.letE ⟨.mk, [(.var 2), (.var 3), (.fld (.var 6) 0), (.fld (.var 6) 1)]⟩
 (.letE ⟨(.all 4), [(.var 7)]⟩
 (.letE ⟨.mk, [(.fld (.var 8) 0), (.fld (.var 8) 1), (.fld (.var 8) 2), (.fld (.var 8) 3)]⟩
 (.ret [(.var 9)]))))))))))
/- loop.example/g00365/laws.toLastS -/
def sg45 : Sig := ⟨[.val], [((.sl (.pair (.int .i64) (.pair (.int .i64) (.pair (.int .i64) (.pair (.int .i64) .unit))))), (.own .sh))], false⟩
def hi45 : Hints := [((0, 3), ⟨[(4, .sh), (2, (.own .sh)), (3, (.own .sh))], [], []⟩)]
def ir45 : IR := (.letE ⟨.len, [(.var 0)]⟩
 (.letE ⟨.mk, [(.int .i64 (0)), (.int .i64 (0)), (.int .i64 (0)), (.int .i64 (0))]⟩
 (.letE ⟨(.rep (.pair (.int .i64) (.pair (.int .i64) (.pair (.int .i64) (.pair (.int .i64) .unit))))), [(.var 1), (.var 2)]⟩
 (.label true
 (.letE ⟨.len, [(.var 0)]⟩
 (.letE ⟨(.bin .lss 3), [(.var 4), (.var 7)]⟩
 (.ite (.var 8)
 (.letE ⟨(.idx 4), [(.var 0), (.var 4)]⟩
 (.letE ⟨(.cells 0 4), [(.var 9)]⟩
 (.call 102 [(.var 10)] 1
 (.letE ⟨(.idx 4), [(.var 6), (.var 4)]⟩
 (.letE ⟨(.setE 4), [(.var 6), (.var 4), (.var 11)]⟩
 (.letE ⟨(.bin .add 3), [(.var 4), (.int .i64 (1))]⟩
 (.jump 0 [(.var 14), (.var 5), (.var 13)])))))))
 (.ret [(.var 6)]))))
 (.jump 0 [(.int .i64 (0)), (.nil (.pair (.int .i64) (.pair (.int .i64) (.pair (.int .i64) (.pair (.int .i64) .unit))))), (.var 3)])))))
/- loop.example/g00365/laws.toSession -/
def sg101 : Sig := ⟨[.val], [((.pair (.int .i64) (.pair .bool .unit)), .sh)], false⟩
def hi101 : Hints := []
def ir101 : IR := (.letE ⟨(.all 2), [(.var 0)]⟩
 (.letE ⟨.atom, [(.fld (.var 1) 0)]⟩
 (.letE ⟨.atom, [(.fld (.var 1) 1)]⟩
 (.letE ⟨.mk, [(.var 2), (.var 3)]⟩
 (.letE ⟨(.all 2), [(.var 4)]⟩
 (.letE ⟨.mk, [(.fld (.var 5) 0), (.fld (.var 5) 1)]⟩
 (.ret [(.var 6)])))))))
/- loop.example/g00365/laws.toSessionS -/
def sg44 : Sig := ⟨[.val], [((.sl (.pair (.int .i64) (.pair .bool .unit))), (.own .sh))], false⟩
def hi44 : Hints := [((0, 3), ⟨[(4, .sh), (2, (.own .sh)), (3, (.own .sh))], [], []⟩)]
def ir44 : IR := (.letE ⟨.len, [(.var 0)]⟩
 (.letE ⟨.mk, [(.int .i64 (0)), (.bool false)]⟩
 (.letE ⟨(.rep (.pair (.int .i64) (.pair .bool .unit))), [(.var 1), (.var 2)]⟩
 (.label true
 (.letE ⟨.len, [(.var 0)]⟩
 (.letE ⟨(.bin .lss 3), [(.var 4), (.var 7)]⟩
 (.ite (.var 8)
 (.letE ⟨(.idx 2), [(.var 0), (.var 4)]⟩
 (.letE ⟨(.cells 0 2), [(.var 9)]⟩
 (.call 101 [(.var 10)] 1
 (.letE ⟨(.idx 2), [(.var 6), (.var 4)]⟩
 (.letE ⟨(.setE 2), [(.var 6), (.var 4), (.var 11)]⟩
 (.letE ⟨(.bin .add 3), [(.var 4), (.int .i64 (1))]⟩
 (.jump 0 [(.var 14), (.var 5), (.var 13)])))))))
 (.ret [(.var 6)]))))
 (.jump 0 [(.int .i64 (0)), (.nil (.pair (.int .i64) (.pair .bool .unit))), (.var 3)])))))
/- loop.example/g00365/laws.toByteS -/
def sg40 : Sig := ⟨[.val], [((.sl (.int .u8)), (.own .sh))], false⟩
def hi40 : Hints := [((0, 3), ⟨[(4, .sh), (2, (.own .sh)), (3, (.own .sh))], [], []⟩)]
def ir40 : IR := (.letE ⟨.len, [(.var 0)]⟩
 (.letE ⟨(.rep (.int .u8)), [(.var 1), (.int .u8 (0))]⟩
 (.label true
 (.letE ⟨.len, [(.var 0)]⟩
 (.letE ⟨(.bin .lss 3), [(.var 3), (.var 6)]⟩
 (.ite (.var 7)
 (.letE ⟨(.idx 1), [(.var 0), (.var 3)]⟩
 (.letE ⟨.a, [(.fld (.var 8) 0)]⟩
 (.letE ⟨(.idx 1), [(.var 5), (.var 3)]⟩
 (.letE ⟨(.setE 1), [(.var 5), (.var 3), (.var 9)]⟩
 (.letE ⟨(.bin .add 3), [(.var 3), (.int .i64 (1))]⟩
 (.jump 0 [(.var 12), (.var 4), (.var 11)]))))))
 (.ret [(.var 5)]))))
 (.jump 0 [(.int .i64 (0)), (.nil (.int .u8)), (.var 2)]))))
/- loop.example/g00365/laws.szLastS -/
def sg36 : Sig := ⟨[.val, .val], [((.int .i64), .sh)], false⟩
def hi36 : Hints := []
def ir36 : IR := (.letE ⟨.len, [(.var 0)]⟩
 (.letE ⟨(.bin .sub 3), [(.var 1), (.var 2)]⟩
 (.letE ⟨(.bin .lss 3), [(.var 3), (.int .i64 (0))]⟩
 (.ite (.var 4)
 (.ret [(.int .i64 (-1))])
 (.ret [(.var 3)])))))
/- loop.example/g00365/laws.szSessionS -/
def sg35 : Sig := ⟨[.val, .val], [((.int .i64), .sh)], false⟩
def hi35 : Hints := []
def ir35 : IR := (.letE ⟨.len, [(.var 0)]⟩
 (.letE ⟨(.bin .sub 3), [(.var 1), (.var 2)]⟩
 (.letE ⟨(.bin .lss 3), [(.var 3), (.int .i64 (0))]⟩
 (.ite (.var 4)
 (.ret [(.int .i64 (-1))])
 (.ret [(.var 3)])))))
/- loop.example/g00365/laws.szByteS -/
def sg31 : Sig := ⟨[.val, .val], [((.int .i64), .sh)], false⟩
def hi31 : Hints := []
def ir31 : IR := (.letE ⟨.len, [(.var 0)]⟩
 (.letE ⟨(.bin .sub 3), [(.var 1), (.var 2)]⟩
 (.letE ⟨(.bin .lss 3), [(.var 3), (.int .i64 (0))]⟩
 (.ite (.var 4)
 (.ret [(.int .i64 (-1))])
 (.ret [(.var 3)])))))
/- loop.example/g00365/laws.eqTomb -/
def sg105 : Sig := ⟨[.val, .val], [(.bool, .sh)], false⟩
def hi105 : Hints := []
def ir105 : IR := (.letE ⟨(.all 2), [(.var 0)]⟩
 (.letE ⟨(.all 2), [(.var 1)]⟩
 (.call 46 [(.fld (.var 2) 0), (.fld (.var 3) 0)] 1
 (.letE ⟨(.un .not), [(.var 4)]⟩
 (.ite (.var 5)
 (.ret [(.bool false)])
 (.letE ⟨(.bin .neq 3), [(.fld (.var 2) 1), (.fld (.var 3) 1)]⟩
 (.ite (.var 6)
 (.ret [(.bool false)])
 (.ret [(.bool true)]))))))))
/- loop.example/g00365/laws.eqTombS -/
def sg49 : Sig := ⟨[.val, .val], [(.bool, .sh)], false⟩
def hi49 : Hints := [((0, 4), ⟨[(4, .sh), (5, .sh)], [], []⟩)]
def ir49 : IR := (.letE ⟨.len, [(.var 0)]⟩
 (.letE ⟨.len, [(.var 1)]⟩
 (.letE ⟨(.bin .neq 3), [(.var 2), (.var 3)]⟩
 (.ite (.var 4)
 (.ret [(.bool false)])
 (.label true
 (.letE ⟨.len, [(.var 0)]⟩
 (.letE ⟨(.bin .lss 3), [(.var 6), (.var 7)]⟩
 (.ite (.var 8)
 (.letE ⟨(.idx 2), [(.var 0), (.var 6)]⟩
 (.letE ⟨(.cells 0 2), [(.var 9)]⟩
 (.letE ⟨(.idx 2), [(.var 1), (.var 6)]⟩
 (.letE ⟨(.cells 0 2), [(.var 11)]⟩
 (.call 105 [(.var 10), (.var 12)] 1
 (.letE ⟨(.un .not), [(.var 13)]⟩
 (.ite (.var 14)
 (.ret [(.bool false)])
 (.letE ⟨(.bin .add 3), [(.var 6), (.int .i64 (1))]⟩
 (.jump 0 [(.var 5), (.var 15)])))))))))
 (.ret [(.bool true)]))))
 (.jump 0 [(.bool false), (.int .i64 (0))]))))))
/- loop.example/g00365/laws.eqRow -/
def sg104 : Sig := ⟨[.val, .val], [(.bool, .sh)], false⟩
def hi104 : Hints := []
def ir104 : IR := (.letE ⟨(.all 4), [(.var 0)]⟩
 (.letE ⟨(.all 4), [(.var 1)]⟩
 (.call 46 [(.fld (.var 2) 0), (.fld (.var 3) 0)] 1
 (.letE ⟨(.un .not), [(.var 4)]⟩
 (.ite (.var 5)
 (.ret [(.bool false)])
 (.call 46 [(.fld (.var 2) 1), (.fld (.var 3) 1)] 1
 (.letE ⟨(.un .not), [(.var 6)]⟩
 (.ite (.var 7)
 (.ret [(.bool false)])
 (.letE ⟨(.bin .neq 3), [(.fld (.var 2) 2), (.fld (.var 3) 2)]⟩
 (.ite (.var 8)
 (.ret [(.bool false)])
 (.letE ⟨(.bin .neq 3), [(.fld (.var 2) 3), (.fld (.var 3) 3)]⟩
 (.ite (.var 9)
 (.ret [(.bool false)])
 (.ret [(.bool true)])))))))))))))
/- loop.example/g00365/laws.eqRowS -/
def sg48 : Sig := ⟨[.val, .val], [(.bool, .sh)], false⟩
def hi48 : Hints := [((0, 4), ⟨[(4, .sh), (5, .sh)], [], []⟩)]
def ir48 : IR := (.letE ⟨.len, [(.var 0)]⟩
 (.letE ⟨.len, [(.var 1)]⟩
 (.letE ⟨(.bin .neq 3), [(.var 2), (.var 3)]⟩
 (.ite (.var 4)
 (.ret [(.bool false)])
 (.label true
 (.letE ⟨.len, [(.var 0)]⟩
 (.letE ⟨(.bin .lss 3), [(.var 6), (.var 7)]⟩
 (.ite (.var 8)
 (.letE ⟨(.idx 4), [(.var 0), (.var 6)]⟩
 (.letE ⟨(.cells 0 4), [(.var 9)]⟩
 (.letE ⟨(.idx 4), [(.var 1), (.var 6)]⟩
 (.letE ⟨(.cells 0 4), [(.var 11)]⟩
 (.call 104 [(.var 10), (.var 12)] 1
 (.letE ⟨(.un .not), [(.var 13)]⟩
 (.ite (.var 14)
 (.ret [(.bool false)])
 (.letE ⟨(.bin .add 3), [(.var 6), (.int .i64 (1))]⟩
 (.jump 0 [(.var 5), (.var 15)])))))))))
 (.ret [(.bool true)]))))
 (.jump 0 [(.bool false), (.int .i64 (0))]))))))
/- loop.example/g00365/laws.eqState -/
def sg13 : Sig := ⟨[.val, .val], [(.bool, .sh)], false⟩
def hi13 : Hints := []
def ir13 : IR := (.letE ⟨(.all 6), [(.var 0)]⟩
 (.letE ⟨(.all 6), [(.var 1)]⟩
 (.letE ⟨(.bin .neq 3), [(.fld (.var 2) 0), (.fld (.var 3) 0)]⟩
 (.ite (.var 4)
 (.ret [(.bool false)])
 (.call 48 [(.fld (.var 2) 1), (.fld (.var 3) 1)] 1
 (.letE ⟨(.un .not), [(.var 5)]⟩
 (.ite (.var 6)
 (.ret [(.bool false)])
 (.call 49 [(.fld (.var 2) 2), (.fld (.var 3) 2)] 1
 (.letE ⟨(.un .not), [(.var 7)]⟩
 (.ite (.var 8)
 (.ret [(.bool false)])
 (.letE ⟨(.bin .neq 3), [(.fld (.var 2) 3), (.fld (.var 3) 3)]⟩
 (.ite (.var 9)
 (.ret [(.bool false)])
 (.call 50 [(.fld (.var 2) 4), (.fld (.var 3) 4)] 1
 (.letE ⟨(.un .not), [(.var 10)]⟩
 (.ite (.var 11)
 (.ret [(.bool false)])
 (.call 51 [(.fld (.var 2) 5), (.fld (.var 3) 5)] 1
 (.letE ⟨(.un .not), [(.var 12)]⟩
 (.ite (.var 13)
 (.ret [(.bool false)])
 (.ret [(.bool true)])))))))))))))))))))
/- loop.example/g00365/laws.eqCheck -/
def sg165 : Sig := ⟨[.val, .val], [(.bool, .sh)], false⟩
def hi165 : Hints := []
def ir165 : IR := (.letE ⟨(.all 6), [(.var 0)]⟩
 (.letE ⟨(.all 6), [(.var 1)]⟩
 (.call 46 [(.fld (.var 2) 0), (.fld (.var 3) 0)] 1
 (.letE ⟨(.un .not), [(.var 4)]⟩
 (.ite (.var 5)
 (.ret [(.bool false)])
 (.letE ⟨(.bin .neq 3), [(.fld (.var 2) 1), (.fld (.var 3) 1)]⟩
 (.ite (.var 6)
 (.ret [(.bool false)])
 (.letE ⟨(.bin .neq 3), [(.fld (.var 2) 2), (.fld (.var 3) 2)]⟩
 (.ite (.var 7)
 (.ret [(.bool false)])
 (.letE ⟨(.bin .neq 3), [(.fld (.var 2) 3), (.fld (.var 3) 3)]⟩
 (.ite (.var 8)
 (.ret [(.bool false)])
 (.letE ⟨(.bin .neq 3), [(.fld (.var 2) 4), (.fld (.var 3) 4)]⟩
 (.ite (.var 9)
 (.ret [(.bool false)])
 (.letE ⟨(.bin .neq 3), [(.fld (.var 2) 5), (.fld (.var 3) 5)]⟩
 (.ite (.var 10)
 (.ret [(.bool false)])
 (.ret [(.bool true)]))))))))))))))))
/- loop.example/g00365/laws.eqCheckS -/
def sg141 : Sig := ⟨[.val, .val], [(.bool, .sh)], false⟩
def hi141 : Hints := [((0, 4), ⟨[(4, .sh), (5, .sh)], [], []⟩)]
def ir141 : IR := (.letE ⟨.len, [(.var 0)]⟩
 (.letE ⟨.len, [(.var 1)]⟩
 (.letE ⟨(.bin .neq 3), [(.var 2), (.var 3)]⟩
 (.ite (.var 4)
 (.ret [(.bool false)])
 (.label true
 (.letE ⟨.len, [(.var 0)]⟩
 (.letE ⟨(.bin .lss 3), [(.var 6), (.var 7)]⟩
 (.ite (.var 8)
 (.letE ⟨(.idx 6), [(.var 0), (.var 6)]⟩
 (.letE ⟨(.cells 0 6), [(.var 9)]⟩
 (.letE ⟨(.idx 6), [(.var 1), (.var 6)]⟩
 (.letE ⟨(.cells 0 6), [(.var 11)]⟩
 (.call 165 [(.var 10), (.var 12)] 1
 (.letE ⟨(.un .not), [(.var 13)]⟩
 (.ite (.var 14)
 (.ret [(.bool false)])
 (.letE ⟨(.bin .add 3), [(.var 6), (.int .i64 (1))]⟩
 (.jump 0 [(.var 5), (.var 15)])))))))))
 (.ret [(.bool true)]))))
 (.jump 0 [(.bool false), (.int .i64 (0))]))))))
/- loop.example/g00365/laws.eqService -/
def sg103 : Sig := ⟨[.val, .val], [(.bool, .sh)], false⟩
def hi103 : Hints := []
def ir103 : IR := (.letE ⟨(.all 2), [(.var 0)]⟩
 (.letE ⟨(.all 2), [(.var 1)]⟩
 (.call 46 [(.fld (.var 2) 0), (.fld (.var 3) 0)] 1
 (.letE ⟨(.un .not), [(.var 4)]⟩
 (.ite (.var 5)
 (.ret [(.bool false)])
 (.call 141 [(.fld (.var 2) 1), (.fld (.var 3) 1)] 1
 (.letE ⟨(.un .not), [(.var 6)]⟩
 (.ite (.var 7)
 (.ret [(.bool false)])
 (.ret [(.bool true)])))))))))
/- loop.example/g00365/laws.eqServiceS -/
def sg47 : Sig := ⟨[.val, .val], [(.bool, .sh)], false⟩
def hi47 : Hints := [((0, 4), ⟨[(4, .sh), (5, .sh)], [], []⟩)]
def ir47 : IR := (.letE ⟨.len, [(.var 0)]⟩
 (.letE ⟨.len, [(.var 1)]⟩
 (.letE ⟨(.bin .neq 3), [(.var 2), (.var 3)]⟩
 (.ite (.var 4)
 (.ret [(.bool false)])
 (.label true
 (.letE ⟨.len, [(.var 0)]⟩
 (.letE ⟨(.bin .lss 3), [(.var 6), (.var 7)]⟩
 (.ite (.var 8)
 (.letE ⟨(.idx 2), [(.var 0), (.var 6)]⟩
 (.letE ⟨(.cells 0 2), [(.var 9)]⟩
 (.letE ⟨(.idx 2), [(.var 1), (.var 6)]⟩
 (.letE ⟨(.cells 0 2), [(.var 11)]⟩
 (.call 103 [(.var 10), (.var 12)] 1
 (.letE ⟨(.un .not), [(.var 13)]⟩
 (.ite (.var 14)
 (.ret [(.bool false)])
 (.letE ⟨(.bin .add 3), [(.var 6), (.int .i64 (1))]⟩
 (.jump 0 [(.var 5), (.var 15)])))))))))
 (.ret [(.bool true)]))))
 (.jump 0 [(.bool false), (.int .i64 (0))]))))))
/- loop.example/g00365/laws.eqLocal -/
def sg12 : Sig := ⟨[.val, .val], [(.bool, .sh)], false⟩
def hi12 : Hints := []
def ir12 : IR := (.letE ⟨(.all 2), [(.var 0)]⟩
 (.letE ⟨(.all 2), [(.var 1)]⟩
 (.call 46 [(.fld (.var 2) 0), (.fld (.var 3) 0)] 1
 (.letE ⟨(.un .not), [(.var 4)]⟩
 (.ite (.var 5)
 (.ret [(.bool false)])
 (.call 47 [(.fld (.var 2) 1), (.fld (.var 3) 1)] 1
 (.letE ⟨(.un .not), [(.var 6)]⟩
 (.ite (.var 7)
 (.ret [(.bool false)])
 (.ret [(.bool true)])))))))))
/- loop.example/g00365/impl.Plan$1 -/
def sg58 : Sig := ⟨[.val, .rd], [(.bool, .sh)], false⟩
def hi58 : Hints := []
def ir58 : IR := (.letE ⟨(.all 2), [(.var 0)]⟩
 (.letE ⟨.a, [(.fld (.var 1) 0)]⟩
 (.call 59 [(.fld (.var 2) 0), (.var 3)] 1
 (.ret [(.var 4)]))))
/- bytes.HasPrefix -/
def sg119 : Sig := ⟨[.val, .val], [(.bool, .sh)], false⟩
def hi119 : Hints := []
def ir119 : IR := (.letE ⟨.len, [(.var 0)]⟩
 (.letE ⟨.len, [(.var 1)]⟩
 (.letE ⟨(.bin .geq 3), [(.var 2), (.var 3)]⟩
 (.ite (.var 4)
 (.letE ⟨.len, [(.var 1)]⟩
 (.letE ⟨(.sub 1 false true), [(.var 0), (.var 5)]⟩
 (.call 59 [(.var 6), (.var 1)] 1
 (.ret [(.var 7)]))))
 (.ret [(.bool false)])))))
/- loop.example/g00365/impl.HasPrefix -/
def sg55 : Sig := ⟨[.val, .val], [(.bool, .sh)], false⟩
def hi55 : Hints := []
def ir55 : IR := (.call 119 [(.var 0), (.var 1)] 1
 (.ret [(.var 2)]))
/- loop.example/g00365/impl.StatusText -/
def sg117 : Sig := ⟨[.val], [((.sl (.int .u8)), (.own .sh))], false⟩
def hi117 : Hints := []
def ir117 : IR := (.call 113 [(.var 0), (.int .i64 (0)), (.int .i64 (2))] 1
 (.letE ⟨(.un .not), [(.var 1)]⟩
 (.ite (.var 2)
 (.ret [(.nil (.int .u8))])
 (.letE ⟨(.lst .str), [(.str [112, 97, 115, 115, 105, 110, 103]), (.str [119, 97, 114, 110, 105, 110, 103]), (.str [99, 114, 105, 116, 105, 99, 97, 108])]⟩
 (.letE ⟨(.idx 1), [(.var 3), (.var 0)]⟩
 (.letE ⟨(.idx 1), [(.var 3), (.var 0)]⟩
 (.letE ⟨.a, [(.fld (.var 5) 0)]⟩
 (.letE ⟨.bytes, [(.var 6)]⟩
 (.ret [(.var 7)])))))))))
/- slices.IndexFunc[[]loop.example/g00365/impl.Tomb,loop.example/g00365/impl.Tomb] -/
def sg147 : Sig := ⟨[.val, (.fn 148 1)], [((.int .i64), .sh)], false⟩
def hi147 : Hints := [((0, 2), ⟨[(4, .sh), (8, .sh)], [], []⟩)]
def ir147 : IR := (.letE ⟨.len, [(.var 0)]⟩
 (.label true
 (.letE ⟨(.bin .lss 3), [(.var 4), (.var 2)]⟩
 (.ite (.var 5)
 (.letE ⟨(.idx 2), [(.var 0), (.var 4)]⟩
 (.letE ⟨(.cells 0 2), [(.var 6)]⟩
 (.call 148 [(.var 7), (.var 1)] 1
 (.ite (.var 8)
 (.ret [(.var 4)])
 (.letE ⟨(.bin .add 3), [(.var 4), (.int .i64 (1))]⟩
 (.jump 0 [(.var 3), (.var 9)]))))))
 (.ret [(.int .i64 (-1))])))
 (.jump 0 [(.int .i64 (0)), (.int .i64 (0))])))
/- (loop.example/g00365/impl.State).tomb -/
def sg116 : Sig := ⟨[.val, .val], [((.int .i64), .sh)], false⟩
def hi116 : Hints := []
def ir116 : IR := (.letE ⟨(.all 6), [(.var 0)]⟩
 (.letE ⟨(.all 1), [(.var 1)]⟩
 (.call 147 [(.fld (.var 2) 2), (.fld (.var 3) 0)] 1
 (.ret [(.var 4)]))))
/- slices.IndexFunc[[]loop.example/g00365/impl.Session,loop.example/g00365/impl.Session] -/
def sg145 : Sig := ⟨[.val, (.fn 146 1)], [((.int .i64), .sh)], false⟩
def hi145 : Hints := [((0, 2), ⟨[(4, .sh), (8, .sh)], [], []⟩)]
def ir145 : IR := (.letE ⟨.len, [(.var 0)]⟩
 (.label true
 (.letE ⟨(.bin .lss 3), [(.var 4), (.var 2)]⟩
 (.ite (.var 5)
 (.letE ⟨(.idx 2), [(.var 0), (.var 4)]⟩
 (.letE ⟨(.cells 0 2), [(.var 6)]⟩
 (.call 146 [(.var 7), (.var 1)] 1
 (.ite (.var 8)
 (.ret [(.var 4)])
 (.letE ⟨(.bin .add 3), [(.var 4), (.int .i64 (1))]⟩
 (.jump 0 [(.var 3), (.var 9)]))))))
 (.ret [(.int .i64 (-1))])))
 (.jump 0 [(.int .i64 (0)), (.int .i64 (0))])))
/- (loop.example/g00365/impl.State).session -/
def sg115 : Sig := ⟨[.val, .val], [((.int .i64), .sh)], false⟩
def hi115 : Hints := []
def ir115 : IR := (.letE ⟨(.all 6), [(.var 0)]⟩
 (.letE ⟨(.all 1), [(.var 1)]⟩
 (.call 145 [(.fld (.var 2) 4), (.fld (.var 3) 0)] 1
 (.ret [(.var 4)]))))
/- loop.example/g00365/impl.StateOk -/
def sg53 : Sig := ⟨[.val], [(.bool, .sh)], false⟩
def hi53 : Hints := [((0, 25), ⟨[(2, .sh), (185, .sh)], [], []⟩), ((0, 19), ⟨[(2, .sh), (154, .sh)], [], []⟩), ((0, 11), ⟨[(2, .sh), (5, .sh), (112, .sh)], [], []⟩), ((0, 4), ⟨[(2, .sh), (53, .sh)], [], []⟩)]
def ir53 : IR := (.letE ⟨(.all 6), [(.var 0)]⟩
 (.call 113 [(.fld (.var 1) 0), (.int .i64 (0)), (.int .i64 (1000000))] 1
 (.letE ⟨(.un .not), [(.var 2)]⟩
 (.ite (.var 3)
 (.ret [(.bool false)])
 (.call 113 [(.fld (.var 1) 3), (.int .i64 (0)), (.fld (.var 1) 0)] 1
 (.letE ⟨(.un .not), [(.var 4)]⟩
 (.ite (.var 5)
 (.ret [(.bool false)])
 (.letE ⟨.len, [(.fld (.var 1) 1)]⟩
 (.letE ⟨(.bin .gtr 3), [(.var 6), (.int .i64 (20))]⟩
 (.ite (.var 7)
 (.ret [(.bool false)])
 (.letE ⟨.len, [(.fld (.var 1) 2)]⟩
 (.letE ⟨(.bin .gtr 3), [(.var 8), (.int .i64 (10))]⟩
 (.ite (.var 9)
 (.ret [(.bool false)])
 (.letE ⟨.len, [(.fld (.var 1) 4)]⟩
 (.letE ⟨(.bin .gtr 3), [(.var 10), (.int .i64 (8))]⟩
 (.ite (.var 11)
 (.ret [(.bool false)])
 (.letE ⟨.len, [(.fld (.var 1) 5)]⟩
 (.letE ⟨(.bin .gtr 3), [(.var 12), (.int .i64 (4))]⟩
 (.ite (.var 13)
 (.ret [(.bool false)])
 (.letE ⟨.len, [(.fld (.var 1) 1)]⟩
 (.label true
 (.letE ⟨(.bin .lss 3), [(.var 16), (.var 14)]⟩
 (.ite (.var 17)
 (.letE ⟨(.idx 4), [(.fld (.var 1) 1), (.var 16)]⟩
 (.letE ⟨(.cells 0 4), [(.var 18)]⟩
 (.letE ⟨(.all 4), [(.var 19)]⟩
 (.call 109 [(.fld (.var 20) 0)] 1
 (.letE ⟨(.un .not), [(.var 21)]⟩
 (.ite (.var 22)
 (.ret [(.bool false)])
 (.call 114 [(.fld (.var 20) 1)] 1
 (.letE ⟨(.un .not), [(.var 23)]⟩
 (.ite (.var 24)
 (.ret [(.bool false)])
 (.call 113 [(.fld (.var 20) 2), (.int .i64 (1)), (.fld (.var 1) 0)] 1
 (.letE ⟨(.un .not), [(.var 25)]⟩
 (.ite (.var 26)
 (.ret [(.bool false)])
 (.letE ⟨(.bin .neq 3), [(.fld (.var 20) 3), (.int .i64 (0))]⟩
 (.ite (.var 27)
 (.letE ⟨.mk, [(.fld (.var 1) 0), (.fld (.var 1) 1), (.fld (.var 1) 2), (.fld (.var 1) 3), (.fld (.var 1) 4), (.fld (.var 1) 5)]⟩
 (.call 115 [(.var 28), (.fld (.var 20) 3)] 1
 (.letE ⟨(.bin .lss 3), [(.var 29), (.int .i64 (0))]⟩
 (.ite (.var 30)
 (.ret [(.bool false)])
 (.letE ⟨(.bin .gtr 3), [(.var 16), (.int .i64 (0))]⟩
 (.ite (.var 31)
 (.letE ⟨(.bin .sub 3), [(.var 16), (.int .i64 (1))]⟩
 (.letE ⟨(.idx 4), [(.fld (.var 1) 1), (.var 32)]⟩
 (.letE ⟨.a, [(.fld (.var 33) 0)]⟩
 (.call 111 [(.var 34), (.fld (.var 20) 0)] 1
 (.letE ⟨(.bin .geq 3), [(.var 35), (.int .i64 (0))]⟩
 (.ite (.var 36)
 (.ret [(.bool false)])
 (.letE ⟨(.bin .add 3), [(.var 16), (.int .i64 (1))]⟩
 (.jump 0 [(.var 15), (.var 37)]))))))))
 (.letE ⟨(.bin .add 3), [(.var 16), (.int .i64 (1))]⟩
 (.jump 0 [(.var 15), (.var 32)]))))))))
 (.letE ⟨(.bin .gtr 3), [(.var 16), (.int .i64 (0))]⟩
 (.ite (.var 28)
 (.letE ⟨(.bin .sub 3), [(.var 16), (.int .i64 (1))]⟩
 (.letE ⟨(.idx 4), [(.fld (.var 1) 1), (.var 29)]⟩
 (.letE ⟨.a, [(.fld (.var 30) 0)]⟩
 (.call 111 [(.var 31), (.fld (.var 20) 0)] 1
 (.letE ⟨(.bin .geq 3), [(.var 32), (.int .i64 (0))]⟩
 (.ite (.var 33)
 (.ret [(.bool false)])
 (.letE ⟨(.bin .add 3), [(.var 16), (.int .i64 (1))]⟩
 (.jump 0 [(.var 15), (.var 34)]))))))))
 (.letE ⟨(.bin .add 3), [(.var 16), (.int .i64 (1))]⟩
 (.jump 0 [(.var 15), (.var 29)]))))))))))))))))))
 (.letE ⟨.mx, [(.int .i64 (1)), (.fld (.var 1) 3)]⟩
 (.letE ⟨.len, [(.fld (.var 1) 2)]⟩
 (.label true
 (.letE ⟨(.bin .lss 3), [(.var 22), (.var 19)]⟩
 (.ite (.var 23)
 (.letE ⟨(.idx 2), [(.fld (.var 1) 2), (.var 22)]⟩
 (.letE ⟨(.cells 0 2), [(.var 24)]⟩
 (.letE ⟨(.all 2), [(.var 25)]⟩
 (.letE ⟨.mk, [(.fld (.var 1) 0), (.fld (.var 1) 1), (.fld (.var 1) 2), (.fld (.var 1) 3), (.fld (.var 1) 4), (.fld (.var 1) 5)]⟩
 (.call 61 [(.var 27), (.fld (.var 26) 0)] 2
 (.ite (.var 29)
 (.ret [(.bool false)])
 (.call 109 [(.fld (.var 26) 0)] 1
 (.letE ⟨(.un .not), [(.var 30)]⟩
 (.ite (.var 31)
 (.ret [(.bool false)])
 (.letE ⟨.mk, [(.fld (.var 1) 0), (.fld (.var 1) 1), (.fld (.var 1) 2), (.fld (.var 1) 3), (.fld (.var 1) 4), (.fld (.var 1) 5)]⟩
 (.call 116 [(.var 32), (.fld (.var 26) 0)] 1
 (.letE ⟨(.bin .neq 3), [(.var 33), (.var 22)]⟩
 (.ite (.var 34)
 (.ret [(.bool false)])
 (.call 113 [(.fld (.var 26) 1), (.var 21), (.fld (.var 1) 0)] 1
 (.letE ⟨(.un .not), [(.var 35)]⟩
 (.ite (.var 36)
 (.ret [(.bool false)])
 (.letE ⟨(.bin .add 3), [(.var 22), (.int .i64 (1))]⟩
 (.jump 1 [(.var 20), (.fld (.var 26) 1), (.var 37)]))))))))))))))))))
 (.letE ⟨.len, [(.fld (.var 1) 4)]⟩
 (.label true
 (.letE ⟨(.bin .lss 3), [(.var 26), (.var 24)]⟩
 (.ite (.var 27)
 (.letE ⟨(.idx 2), [(.fld (.var 1) 4), (.var 26)]⟩
 (.letE ⟨(.cells 0 2), [(.var 28)]⟩
 (.letE ⟨(.all 2), [(.var 29)]⟩
 (.call 113 [(.fld (.var 30) 0), (.int .i64 (1)), (.fld (.var 1) 0)] 1
 (.letE ⟨(.un .not), [(.var 31)]⟩
 (.ite (.var 32)
 (.ret [(.bool false)])
 (.letE ⟨(.bin .gtr 3), [(.var 26), (.int .i64 (0))]⟩
 (.ite (.var 33)
 (.letE ⟨(.bin .sub 3), [(.var 26), (.int .i64 (1))]⟩
 (.letE ⟨(.idx 2), [(.fld (.var 1) 4), (.var 34)]⟩
 (.letE ⟨.a, [(.fld (.var 35) 0)]⟩
 (.letE ⟨(.bin .geq 3), [(.var 36), (.fld (.var 30) 0)]⟩
 (.ite (.var 37)
 (.ret [(.bool false)])
 (.letE ⟨(.bin .add 3), [(.var 26), (.int .i64 (1))]⟩
 (.jump 2 [(.var 25), (.var 38)])))))))
 (.letE ⟨(.bin .add 3), [(.var 26), (.int .i64 (1))]⟩
 (.jump 2 [(.var 25), (.var 34)]))))))))))
 (.letE ⟨.len, [(.fld (.var 1) 5)]⟩
 (.label true
 (.letE ⟨(.bin .lss 3), [(.var 30), (.var 28)]⟩
 (.ite (.var 31)
 (.letE ⟨(.idx 4), [(.fld (.var 1) 5), (.var 30)]⟩
 (.letE ⟨(.cells 0 4), [(.var 32)]⟩
 (.letE ⟨(.all 4), [(.var 33)]⟩
 (.call 113 [(.fld (.var 34) 0), (.int .i64 (0)), (.int .i64 (3))] 1
 (.letE ⟨(.un .not), [(.var 35)]⟩
 (.ite (.var 36)
 (.ret [(.bool false)])
 (.call 113 [(.fld (.var 34) 1), (.int .i64 (1)), (.int .i64 (1000000))] 1
 (.letE ⟨(.un .not), [(.var 37)]⟩
 (.ite (.var 38)
 (.ret [(.bool false)])
 (.call 113 [(.fld (.var 34) 2), (.int .i64 (0)), (.int .i64 (5))] 1
 (.letE ⟨(.un .not), [(.var 39)]⟩
 (.ite (.var 40)
 (.ret [(.bool false)])
 (.call 113 [(.fld (.var 34) 3), (.int .i64 (1)), (.fld (.var 1) 0)] 1
 (.letE ⟨(.un .not), [(.var 41)]⟩
 (.ite (.var 42)
 (.ret [(.bool false)])
 (.letE ⟨(.bin .gtr 3), [(.var 30), (.int .i64 (0))]⟩
 (.ite (.var 43)
 (.letE ⟨(.bin .sub 3), [(.var 30), (.int .i64 (1))]⟩
 (.letE ⟨(.idx 4), [(.fld (.var 1) 5), (.var 44)]⟩
 (.letE ⟨.a, [(.fld (.var 45) 0)]⟩
 (.letE ⟨(.bin .geq 3), [(.var 46), (.fld (.var 34) 0)]⟩
 (.ite (.var 47)
 (.ret [(.bool false)])
 (.letE ⟨(.bin .add 3), [(.var 30), (.int .i64 (1))]⟩
 (.jump 3 [(.var 29), (.var 48)])))))))
 (.letE ⟨(.bin .add 3), [(.var 30), (.int .i64 (1))]⟩
 (.jump 3 [(.var 29), (.var 44)])))))))))))))))))))
 (.ret [(.bool true)])))
 (.jump 3 [(.var 25), (.int .i64 (0))])))))
 (.jump 2 [(.var 20), (.int .i64 (0))])))))
 (.jump 1 [(.var 15), (.var 18), (.int .i64 (0))]))))))
 (.jump 0 [(.bool false), (.int .i64 (0))]))))))))))))))))))))))
/- loop.example/g00365/impl.CheckOk -/
def sg112 : Sig := ⟨[.val], [(.bool, .sh)], false⟩
def hi112 : Hints := []
def ir112 : IR := (.letE ⟨(.all 6), [(.var 0)]⟩
 (.call 109 [(.fld (.var 1) 0)] 1
 (.ite (.var 2)
 (.call 113 [(.fld (.var 1) 1), (.int .i64 (0)), (.int .i64 (1000))] 1
 (.ite (.var 3)
 (.call 113 [(.fld (.var 1) 4), (.int .i64 (0)), (.int .i64 (1000))] 1
 (.ite (.var 4)
 (.call 113 [(.fld (.var 1) 2), (.int .i64 (1)), (.int .i64 (5))] 1
 (.ite (.var 5)
 (.call 113 [(.fld (.var 1) 3), (.int .i64 (0)), (.int .i64 (2))] 1
 (.ite (.var 6)
 (.call 113 [(.fld (.var 1) 5), (.int .i64 (0)), (.fld (.var 1) 2)] 1
 (.ite (.var 7)
 (.letE ⟨.mk, [(.fld (.var 1) 0), (.fld (.var 1) 1), (.fld (.var 1) 2), (.fld (.var 1) 3), (.fld (.var 1) 4), (.fld (.var 1) 5)]⟩
 (.call 144 [(.var 8)] 1
 (.letE ⟨(.un .not), [(.var 9)]⟩
 (.ite (.var 10)
 (.letE ⟨(.bin .neq 3), [(.fld (.var 1) 3), (.int .i64 (0))]⟩
 (.ite (.var 11)
 (.ret [(.bool true)])
 (.letE ⟨(.bin .eql 3), [(.fld (.var 1) 5), (.int .i64 (0))]⟩
 (.ret [(.var 12)]))))
 (.letE ⟨(.bin .eql 3), [(.fld (.var 1) 3), (.int .i64 (2))]⟩
 (.ite (.var 11)
 (.letE ⟨(.bin .neq 3), [(.fld (.var 1) 3), (.int .i64 (0))]⟩
 (.ite (.var 12)
 (.ret [(.bool true)])
 (.letE ⟨(.bin .eql 3), [(.fld (.var 1) 5), (.int .i64 (0))]⟩
 (.ret [(.var 13)]))))
 (.ret [(.bool false)])))))))
 (.ret [(.bool false)])))
 (.ret [(.bool false)])))
 (.ret [(.bool false)])))
 (.ret [(.bool false)])))
 (.ret [(.bool false)])))
 (.ret [(.bool false)]))))
/- loop.example/g00365/impl.LocalOk -/
def sg52 : Sig := ⟨[.val], [(.bool, .sh)], false⟩
def hi52 : Hints := [((1, 12), ⟨[(87, .sh)], [], [68, 69, 70, 71, 72, 73, 74, 75, 76, 77, 78, 79, 80, 81, 82, 83, 84, 85, 86]⟩), ((0, 9), ⟨[(2, .sh), (63, .sh)], [], []⟩), ((1, 7), ⟨[(59, .sh)], [], [25, 26, 27, 28, 29, 30, 31, 32, 33, 34, 35, 36, 37, 38, 39, 40, 41, 42, 43, 44, 45, 46, 47, 48, 49, 50, 51, 52, 53, 54, 55, 56, 57, 58]⟩), ((0, 4), ⟨[(2, .sh), (20, .sh)], [], []⟩), ((1, 2), ⟨[(16, .sh)], [], [7, 8, 9, 10, 11, 12, 13, 14, 15]⟩)]
def ir52 : IR := (.letE ⟨(.all 2), [(.var 0)]⟩
 (.label false
 (.ite (.var 2)
 (.ret [(.bool false)])
 (.letE ⟨.len, [(.fld (.var 1) 1)]⟩
 (.label true
 (.letE ⟨(.bin .lss 3), [(.var 5), (.var 3)]⟩
 (.ite (.var 6)
 (.letE ⟨(.idx 2), [(.fld (.var 1) 1), (.var 5)]⟩
 (.letE ⟨(.cells 0 2), [(.var 7)]⟩
 (.letE ⟨(.all 2), [(.var 8)]⟩
 (.label false
 (.ite (.var 10)
 (.ret [(.bool false)])
 (.letE ⟨.len, [(.fld (.var 9) 1)]⟩
 (.label true
 (.letE ⟨(.bin .lss 3), [(.var 13), (.var 11)]⟩
 (.ite (.var 14)
 (.letE ⟨(.idx 6), [(.fld (.var 9) 1), (.var 13)]⟩
 (.letE ⟨(.cells 0 6), [(.var 15)]⟩
 (.letE ⟨(.all 6), [(.var 16)]⟩
 (.label false
 (.ite (.var 18)
 (.ret [(.bool false)])
 (.letE ⟨(.bin .add 3), [(.var 13), (.int .i64 (1))]⟩
 (.jump 3 [(.var 12), (.var 19)])))
 (.letE ⟨.mk, [(.fld (.var 17) 0), (.fld (.var 17) 1), (.fld (.var 17) 2), (.fld (.var 17) 3), (.fld (.var 17) 4), (.fld (.var 17) 5)]⟩
 (.call 112 [(.var 18)] 1
 (.letE ⟨(.un .not), [(.var 19)]⟩
 (.ite (.var 20)
 (.jump 4 [(.bool true)])
 (.letE ⟨(.bin .gtr 3), [(.var 13), (.int .i64 (0))]⟩
 (.ite (.var 21)
 (.letE ⟨(.bin .sub 3), [(.var 13), (.int .i64 (1))]⟩
 (.letE ⟨(.idx 6), [(.fld (.var 9) 1), (.var 22)]⟩
 (.letE ⟨.a, [(.fld (.var 23) 0)]⟩
 (.call 111 [(.var 24), (.fld (.var 17) 0)] 1
 (.letE ⟨(.bin .geq 3), [(.var 25), (.int .i64 (0))]⟩
 (.jump 4 [(.var 26)]))))))
 (.jump 4 [(.bool false)])))))))))))
 (.letE ⟨(.bin .add 3), [(.var 5), (.int .i64 (1))]⟩
 (.jump 1 [(.var 12), (.var 15)]))))
 (.jump 3 [(.var 4), (.int .i64 (0))]))))
 (.call 108 [(.fld (.var 9) 0)] 1
 (.letE ⟨(.un .not), [(.var 10)]⟩
 (.ite (.var 11)
 (.jump 2 [(.bool true)])
 (.letE ⟨.mk, [(.fld (.var 1) 0), (.fld (.var 1) 1)]⟩
 (.call 110 [(.var 12), (.fld (.var 9) 0)] 1
 (.call 109 [(.var 13)] 1
 (.letE ⟨(.un .not), [(.var 14)]⟩
 (.ite (.var 15)
 (.jump 2 [(.bool true)])
 (.letE ⟨.len, [(.fld (.var 9) 1)]⟩
 (.letE ⟨(.bin .gtr 3), [(.var 16), (.int .i64 (4))]⟩
 (.ite (.var 17)
 (.jump 2 [(.bool true)])
 (.letE ⟨(.bin .gtr 3), [(.var 5), (.int .i64 (0))]⟩
 (.ite (.var 18)
 (.letE ⟨(.bin .sub 3), [(.var 5), (.int .i64 (1))]⟩
 (.letE ⟨(.idx 2), [(.fld (.var 1) 1), (.var 19)]⟩
 (.letE ⟨.a, [(.fld (.var 20) 0)]⟩
 (.call 111 [(.var 21), (.fld (.var 9) 0)] 1
 (.letE ⟨(.bin .geq 3), [(.var 22), (.int .i64 (0))]⟩
 (.jump 2 [(.var 23)]))))))
 (.jump 2 [(.bool false)]))))))))))))))))))
 (.ret [(.bool true)])))
 (.jump 1 [(.bool false), (.int .i64 (0))]))))
 (.call 108 [(.fld (.var 1) 0)] 1
 (.letE ⟨(.un .not), [(.var 2)]⟩
 (.ite (.var 3)
 (.jump 0 [(.bool true)])
 (.letE ⟨.len, [(.fld (.var 1) 1)]⟩
 (.letE ⟨(.bin .gtr 3), [(.var 4), (.int .i64 (6))]⟩
 (.jump 0 [(.var 5)]))))))))
/- loop.example/g00365/spec.StateOk -/
def sg38 : Sig := ⟨[.val], [(.bool, .sh)], false⟩
def hi38 : Hints := [((0, 21), ⟨[(2, .sh), (8, .sh)], [], []⟩), ((0, 16), ⟨[(2, .sh), (7, .sh)], [], []⟩), ((0, 10), ⟨[(2, .sh), (5, .sh)], [], []⟩), ((0, 4), ⟨[(2, .sh), (3, .sh)], [], []⟩)]
def ir38 : IR := (.letE ⟨(.all 6), [(.var 0)]⟩
 (.call 90 [(.fld (.var 1) 0)] 1
 (.letE ⟨(.un .not), [(.var 2)]⟩
 (.ite (.var 3)
 (.ret [(.bool false)])
 (.letE ⟨.len, [(.fld (.var 1) 1)]⟩
 (.letE ⟨(.bin .gtr 3), [(.var 4), (.int .i64 (20))]⟩
 (.ite (.var 5)
 (.ret [(.bool false)])
 (.letE ⟨.len, [(.fld (.var 1) 2)]⟩
 (.letE ⟨(.bin .gtr 3), [(.var 6), (.int .i64 (10))]⟩
 (.ite (.var 7)
 (.ret [(.bool false)])
 (.letE ⟨(.bin .lss 3), [(.fld (.var 1) 3), (.int .i64 (0))]⟩
 (.ite (.var 8)
 (.ret [(.bool false)])
 (.letE ⟨(.bin .gtr 3), [(.fld (.var 1) 3), (.fld (.var 1) 0)]⟩
 (.ite (.var 9)
 (.ret [(.bool false)])
 (.letE ⟨.len, [(.fld (.var 1) 4)]⟩
 (.letE ⟨(.bin .gtr 3), [(.var 10), (.int .i64 (8))]⟩
 (.ite (.var 11)
 (.ret [(.bool false)])
 (.letE ⟨.len, [(.fld (.var 1) 5)]⟩
 (.letE ⟨(.bin .gtr 3), [(.var 12), (.int .i64 (4))]⟩
 (.ite (.var 13)
 (.ret [(.bool false)])
 (.label true
 (.letE ⟨.len, [(.fld (.var 1) 1)]⟩
 (.letE ⟨(.bin .lss 3), [(.var 15), (.var 16)]⟩
 (.ite (.var 17)
 (.letE ⟨(.idx 4), [(.fld (.var 1) 1), (.var 15)]⟩
 (.letE ⟨(.cells 0 4), [(.var 18)]⟩
 (.letE ⟨(.all 4), [(.var 19)]⟩
 (.call 87 [(.fld (.var 20) 0)] 1
 (.letE ⟨(.un .not), [(.var 21)]⟩
 (.ite (.var 22)
 (.ret [(.bool false)])
 (.call 91 [(.fld (.var 20) 1)] 1
 (.letE ⟨(.un .not), [(.var 23)]⟩
 (.ite (.var 24)
 (.ret [(.bool false)])
 (.letE ⟨(.bin .lss 3), [(.fld (.var 20) 2), (.int .i64 (1))]⟩
 (.ite (.var 25)
 (.ret [(.bool false)])
 (.letE ⟨(.bin .gtr 3), [(.fld (.var 20) 2), (.fld (.var 1) 0)]⟩
 (.ite (.var 26)
 (.ret [(.bool false)])
 (.letE ⟨(.bin .neq 3), [(.fld (.var 20) 3), (.int .i64 (0))]⟩
 (.ite (.var 27)
 (.letE ⟨.mk, [(.fld (.var 1) 0), (.fld (.var 1) 1), (.fld (.var 1) 2), (.fld (.var 1) 3), (.fld (.var 1) 4), (.fld (.var 1) 5)]⟩
 (.call 92 [(.var 28), (.fld (.var 20) 3)] 1
 (.letE ⟨(.bin .lss 3), [(.var 29), (.int .i64 (0))]⟩
 (.ite (.var 30)
 (.ret [(.bool false)])
 (.letE ⟨(.bin .gtr 3), [(.var 15), (.int .i64 (0))]⟩
 (.ite (.var 31)
 (.letE ⟨(.bin .sub 3), [(.var 15), (.int .i64 (1))]⟩
 (.letE ⟨(.idx 4), [(.fld (.var 1) 1), (.var 32)]⟩
 (.letE ⟨.a, [(.fld (.var 33) 0)]⟩
 (.letE ⟨.text, [(.var 34)]⟩
 (.letE ⟨.text, [(.fld (.var 20) 0)]⟩
 (.letE ⟨(.bin .geq 9), [(.var 35), (.var 36)]⟩
 (.ite (.var 37)
 (.ret [(.bool false)])
 (.letE ⟨(.bin .add 3), [(.var 15), (.int .i64 (1))]⟩
 (.jump 0 [(.var 14), (.var 38)])))))))))
 (.letE ⟨(.bin .add 3), [(.var 15), (.int .i64 (1))]⟩
 (.jump 0 [(.var 14), (.var 32)]))))))))
 (.letE ⟨(.bin .gtr 3), [(.var 15), (.int .i64 (0))]⟩
 (.ite (.var 28)
 (.letE ⟨(.bin .sub 3), [(.var 15), (.int .i64 (1))]⟩
 (.letE ⟨(.idx 4), [(.fld (.var 1) 1), (.var 29)]⟩
 (.letE ⟨.a, [(.fld (.var 30) 0)]⟩
 (.letE ⟨.text, [(.var 31)]⟩
 (.letE ⟨.text, [(.fld (.var 20) 0)]⟩
 (.letE ⟨(.bin .geq 9), [(.var 32), (.var 33)]⟩
 (.ite (.var 34)
 (.ret [(.bool false)])
 (.letE ⟨(.bin .add 3), [(.var 15), (.int .i64 (1))]⟩
 (.jump 0 [(.var 14), (.var 35)])))))))))
 (.letE ⟨(.bin .add 3), [(.var 15), (.int .i64 (1))]⟩
 (.jump 0 [(.var 14), (.var 29)])))))))))))))))))))
 (.label true
 (.letE ⟨.len, [(.fld (.var 1) 2)]⟩
 (.letE ⟨(.bin .lss 3), [(.var 19), (.var 20)]⟩
 (.ite (.var 21)
 (.letE ⟨(.idx 2), [(.fld (.var 1) 2), (.var 19)]⟩
 (.letE ⟨(.cells 0 2), [(.var 22)]⟩
 (.letE ⟨(.all 2), [(.var 23)]⟩
 (.call 87 [(.fld (.var 24) 0)] 1
 (.letE ⟨(.un .not), [(.var 25)]⟩
 (.ite (.var 26)
 (.ret [(.bool false)])
 (.letE ⟨.mk, [(.fld (.var 1) 0), (.fld (.var 1) 1), (.fld (.var 1) 2), (.fld (.var 1) 3), (.fld (.var 1) 4), (.fld (.var 1) 5)]⟩
 (.call 93 [(.var 27), (.fld (.var 24) 0)] 1
 (.letE ⟨(.bin .geq 3), [(.var 28), (.int .i64 (0))]⟩
 (.ite (.var 29)
 (.ret [(.bool false)])
 (.letE ⟨.mk, [(.fld (.var 1) 0), (.fld (.var 1) 1), (.fld (.var 1) 2), (.fld (.var 1) 3), (.fld (.var 1) 4), (.fld (.var 1) 5)]⟩
 (.call 94 [(.var 30), (.fld (.var 24) 0)] 1
 (.letE ⟨(.bin .neq 3), [(.var 31), (.var 19)]⟩
 (.ite (.var 32)
 (.ret [(.bool false)])
 (.letE ⟨(.bin .lss 3), [(.fld (.var 24) 1), (.int .i64 (1))]⟩
 (.ite (.var 33)
 (.ret [(.bool false)])
 (.letE ⟨(.bin .gtr 3), [(.fld (.var 24) 1), (.fld (.var 1) 0)]⟩
 (.ite (.var 34)
 (.ret [(.bool false)])
 (.letE ⟨(.bin .lss 3), [(.fld (.var 24) 1), (.fld (.var 1) 3)]⟩
 (.ite (.var 35)
 (.ret [(.bool false)])
 (.letE ⟨(.bin .gtr 3), [(.var 19), (.int .i64 (0))]⟩
 (.ite (.var 36)
 (.letE ⟨(.bin .sub 3), [(.var 19), (.int .i64 (1))]⟩
 (.letE ⟨(.idx 2), [(.fld (.var 1) 2), (.var 37)]⟩
 (.letE ⟨.a, [(.fld (.var 38) 1)]⟩
 (.letE ⟨(.bin .gtr 3), [(.var 39), (.fld (.var 24) 1)]⟩
 (.ite (.var 40)
 (.ret [(.bool false)])
 (.letE ⟨(.bin .add 3), [(.var 19), (.int .i64 (1))]⟩
 (.jump 1 [(.var 18), (.var 41)])))))))
 (.letE ⟨(.bin .add 3), [(.var 19), (.int .i64 (1))]⟩
 (.jump 1 [(.var 18), (.var 37)]))))))))))))))))))))))))
 (.label true
 (.letE ⟨.len, [(.fld (.var 1) 4)]⟩
 (.letE ⟨(.bin .lss 3), [(.var 23), (.var 24)]⟩
 (.ite (.var 25)
 (.letE ⟨(.idx 2), [(.fld (.var 1) 4), (.var 23)]⟩
 (.letE ⟨.a, [(.fld (.var 26) 0)]⟩
 (.letE ⟨(.bin .lss 3), [(.var 27), (.int .i64 (1))]⟩
 (.ite (.var 28)
 (.ret [(.bool false)])
 (.letE ⟨(.idx 2), [(.fld (.var 1) 4), (.var 23)]⟩
 (.letE ⟨.a, [(.fld (.var 29) 0)]⟩
 (.letE ⟨(.bin .gtr 3), [(.var 30), (.fld (.var 1) 0)]⟩
 (.ite (.var 31)
 (.ret [(.bool false)])
 (.letE ⟨(.bin .gtr 3), [(.var 23), (.int .i64 (0))]⟩
 (.ite (.var 32)
 (.letE ⟨(.bin .sub 3), [(.var 23), (.int .i64 (1))]⟩
 (.letE ⟨(.idx 2), [(.fld (.var 1) 4), (.var 33)]⟩
 (.letE ⟨.a, [(.fld (.var 34) 0)]⟩
 (.letE ⟨(.idx 2), [(.fld (.var 1) 4), (.var 23)]⟩
 (.letE ⟨.a, [(.fld (.var 36) 0)]⟩
 (.letE ⟨(.bin .geq 3), [(.var 35), (.var 37)]⟩
 (.ite (.var 38)
 (.ret [(.bool false)])
 (.letE ⟨(.bin .add 3), [(.var 23), (.int .i64 (1))]⟩
 (.jump 2 [(.var 22), (.var 39)])))))))))
 (.letE ⟨(.bin .add 3), [(.var 23), (.int .i64 (1))]⟩
 (.jump 2 [(.var 22), (.var 33)]))))))))))))
 (.label true
 (.letE ⟨.len, [(.fld (.var 1) 5)]⟩
 (.letE ⟨(.bin .lss 3), [(.var 27), (.var 28)]⟩
 (.ite (.var 29)
 (.letE ⟨(.idx 4), [(.fld (.var 1) 5), (.var 27)]⟩
 (.letE ⟨(.cells 0 4), [(.var 30)]⟩
 (.letE ⟨(.all 4), [(.var 31)]⟩
 (.letE ⟨(.bin .lss 3), [(.fld (.var 32) 0), (.int .i64 (0))]⟩
 (.ite (.var 33)
 (.ret [(.bool false)])
 (.letE ⟨(.bin .geq 3), [(.fld (.var 32) 0), (.int .i64 (4))]⟩
 (.ite (.var 34)
 (.ret [(.bool false)])
 (.letE ⟨(.bin .lss 3), [(.fld (.var 32) 1), (.int .i64 (1))]⟩
 (.ite (.var 35)
 (.ret [(.bool false)])
 (.letE ⟨(.bin .gtr 3), [(.fld (.var 32) 1), (.int .i64 (1000000))]⟩
 (.ite (.var 36)
 (.ret [(.bool false)])
 (.letE ⟨(.bin .lss 3), [(.fld (.var 32) 2), (.int .i64 (0))]⟩
 (.ite (.var 37)
 (.ret [(.bool false)])
 (.letE ⟨(.bin .gtr 3), [(.fld (.var 32) 2), (.int .i64 (5))]⟩
 (.ite (.var 38)
 (.ret [(.bool false)])
 (.letE ⟨(.bin .lss 3), [(.fld (.var 32) 3), (.int .i64 (1))]⟩
 (.ite (.var 39)
 (.ret [(.bool false)])
 (.letE ⟨(.bin .gtr 3), [(.fld (.var 32) 3), (.fld (.var 1) 0)]⟩
 (.ite (.var 40)
 (.ret [(.bool false)])
 (.letE ⟨(.bin .gtr 3), [(.var 27), (.int .i64 (0))]⟩
 (.ite (.var 41)
 (.letE ⟨(.bin .sub 3), [(.var 27), (.int .i64 (1))]⟩
 (.letE ⟨(.idx 4), [(.fld (.var 1) 5), (.var 42)]⟩
 (.letE ⟨.a, [(.fld (.var 43) 0)]⟩
 (.letE ⟨(.bin .geq 3), [(.var 44), (.fld (.var 32) 0)]⟩
 (.ite (.var 45)
 (.ret [(.bool false)])
 (.letE ⟨(.bin .add 3), [(.var 27), (.int .i64 (1))]⟩
 (.jump 3 [(.var 26), (.var 46)])))))))
 (.letE ⟨(.bin .add 3), [(.var 27), (.int .i64 (1))]⟩
 (.jump 3 [(.var 26), (.var 42)])))))))))))))))))))))))
 (.ret [(.bool true)]))))
 (.jump 3 [(.var 22), (.int .i64 (0))])))))
 (.jump 2 [(.var 18), (.int .i64 (0))])))))
 (.jump 1 [(.var 14), (.int .i64 (0))])))))
 (.jump 0 [(.bool false), (.int .i64 (0))]))))))))))))))))))))))
/- loop.example/g00365/spec.CheckOk -/
def sg89 : Sig := ⟨[.val], [(.bool, .sh)], false⟩
def hi89 : Hints := []
def ir89 : IR := (.letE ⟨(.all 6), [(.var 0)]⟩
 (.call 87 [(.fld (.var 1) 0)] 1
 (.letE ⟨(.un .not), [(.var 2)]⟩
 (.ite (.var 3)
 (.ret [(.bool false)])
 (.letE ⟨(.bin .lss 3), [(.fld (.var 1) 1), (.int .i64 (0))]⟩
 (.ite (.var 4)
 (.ret [(.bool false)])
 (.letE ⟨(.bin .gtr 3), [(.fld (.var 1) 1), (.int .i64 (1000))]⟩
 (.ite (.var 5)
 (.ret [(.bool false)])
 (.letE ⟨(.bin .lss 3), [(.fld (.var 1) 2), (.int .i64 (1))]⟩
 (.ite (.var 6)
 (.ret [(.bool false)])
 (.letE ⟨(.bin .gtr 3), [(.fld (.var 1) 2), (.int .i64 (5))]⟩
 (.ite (.var 7)
 (.ret [(.bool false)])
 (.letE ⟨(.bin .lss 3), [(.fld (.var 1) 3), (.int .i64 (0))]⟩
 (.ite (.var 8)
 (.ret [(.bool false)])
 (.letE ⟨(.bin .gtr 3), [(.fld (.var 1) 3), (.int .i64 (2))]⟩
 (.ite (.var 9)
 (.ret [(.bool false)])
 (.letE ⟨(.bin .lss 3), [(.fld (.var 1) 4), (.int .i64 (0))]⟩
 (.ite (.var 10)
 (.ret [(.bool false)])
 (.letE ⟨(.bin .gtr 3), [(.fld (.var 1) 4), (.int .i64 (1000))]⟩
 (.ite (.var 11)
 (.ret [(.bool false)])
 (.letE ⟨(.bin .lss 3), [(.fld (.var 1) 5), (.int .i64 (0))]⟩
 (.ite (.var 12)
 (.ret [(.bool false)])
 (.letE ⟨(.bin .gtr 3), [(.fld (.var 1) 5), (.fld (.var 1) 2)]⟩
 (.ite (.var 13)
 (.ret [(.bool false)])
 (.letE ⟨(.bin .gtr 3), [(.fld (.var 1) 1), (.int .i64 (0))]⟩
 (.ite (.var 14)
 (.letE ⟨(.bin .geq 3), [(.fld (.var 1) 4), (.fld (.var 1) 1)]⟩
 (.ite (.var 15)
 (.letE ⟨(.bin .neq 3), [(.fld (.var 1) 3), (.int .i64 (2))]⟩
 (.ite (.var 16)
 (.ret [(.bool false)])
 (.letE ⟨(.bin .neq 3), [(.fld (.var 1) 3), (.int .i64 (0))]⟩
 (.ite (.var 17)
 (.ret [(.bool true)])
 (.letE ⟨(.bin .eql 3), [(.fld (.var 1) 5), (.int .i64 (0))]⟩
 (.ret [(.var 18)]))))))
 (.letE ⟨(.bin .neq 3), [(.fld (.var 1) 3), (.int .i64 (0))]⟩
 (.ite (.var 16)
 (.ret [(.bool true)])
 (.letE ⟨(.bin .eql 3), [(.fld (.var 1) 5), (.int .i64 (0))]⟩
 (.ret [(.var 17)]))))))
 (.letE ⟨(.bin .neq 3), [(.fld (.var 1) 3), (.int .i64 (0))]⟩
 (.ite (.var 15)
 (.ret [(.bool true)])
 (.letE ⟨(.bin .eql 3), [(.fld (.var 1) 5), (.int .i64 (0))]⟩
 (.ret [(.var 16)]))))))))))))))))))))))))))))))
/- loop.example/g00365/spec.LocalOk -/
def sg37 : Sig := ⟨[.val], [(.bool, .sh)], false⟩
def hi37 : Hints := [((1, 13), ⟨[(100, .sh)], [], [72, 73, 74, 75, 76, 77, 78, 79, 80, 81, 82, 83, 84, 85, 86, 87, 88, 89, 90, 91, 92, 93, 94, 95, 96, 97, 98, 99]⟩), ((0, 10), ⟨[(2, .sh), (5, .sh)], [], []⟩), ((1, 8), ⟨[(64, .sh)], [], [28, 29, 30, 31, 32, 33, 34, 35, 36, 37, 38, 39, 40, 41, 42, 43, 44, 45, 46, 47, 48, 49, 50, 51, 52, 53, 54, 55, 56, 57, 58, 59, 60, 61, 62, 63]⟩), ((0, 4), ⟨[(2, .sh), (3, .sh)], [], []⟩), ((1, 2), ⟨[(15, .sh)], [], [6, 7, 8, 9, 10, 11, 12, 13, 14]⟩)]
def ir37 : IR := (.letE ⟨(.all 2), [(.var 0)]⟩
 (.label false
 (.ite (.var 2)
 (.ret [(.bool false)])
 (.label true
 (.letE ⟨.len, [(.fld (.var 1) 1)]⟩
 (.letE ⟨(.bin .lss 3), [(.var 4), (.var 5)]⟩
 (.ite (.var 6)
 (.letE ⟨(.idx 2), [(.fld (.var 1) 1), (.var 4)]⟩
 (.letE ⟨(.cells 0 2), [(.var 7)]⟩
 (.letE ⟨(.all 2), [(.var 8)]⟩
 (.label false
 (.ite (.var 10)
 (.ret [(.bool false)])
 (.label true
 (.letE ⟨.len, [(.fld (.var 9) 1)]⟩
 (.letE ⟨(.bin .lss 3), [(.var 12), (.var 13)]⟩
 (.ite (.var 14)
 (.label false
 (.ite (.var 15)
 (.ret [(.bool false)])
 (.letE ⟨(.bin .add 3), [(.var 12), (.int .i64 (1))]⟩
 (.jump 3 [(.var 11), (.var 16)])))
 (.letE ⟨(.idx 6), [(.fld (.var 9) 1), (.var 12)]⟩
 (.letE ⟨(.cells 0 6), [(.var 15)]⟩
 (.call 89 [(.var 16)] 1
 (.letE ⟨(.un .not), [(.var 17)]⟩
 (.ite (.var 18)
 (.jump 4 [(.bool true)])
 (.letE ⟨(.bin .gtr 3), [(.var 12), (.int .i64 (0))]⟩
 (.ite (.var 19)
 (.letE ⟨(.bin .sub 3), [(.var 12), (.int .i64 (1))]⟩
 (.letE ⟨(.idx 6), [(.fld (.var 9) 1), (.var 20)]⟩
 (.letE ⟨.a, [(.fld (.var 21) 0)]⟩
 (.letE ⟨.text, [(.var 22)]⟩
 (.letE ⟨(.idx 6), [(.fld (.var 9) 1), (.var 12)]⟩
 (.letE ⟨.a, [(.fld (.var 24) 0)]⟩
 (.letE ⟨.text, [(.var 25)]⟩
 (.letE ⟨(.bin .geq 9), [(.var 23), (.var 26)]⟩
 (.jump 4 [(.var 27)])))))))))
 (.jump 4 [(.bool false)])))))))))
 (.letE ⟨(.bin .add 3), [(.var 4), (.int .i64 (1))]⟩
 (.jump 1 [(.var 11), (.var 15)])))))
 (.jump 3 [(.var 3), (.int .i64 (0))])))
 (.call 86 [(.fld (.var 9) 0)] 1
 (.letE ⟨(.un .not), [(.var 10)]⟩
 (.ite (.var 11)
 (.jump 2 [(.bool true)])
 (.call 88 [(.fld (.var 1) 0), (.fld (.var 9) 0)] 1
 (.call 87 [(.var 12)] 1
 (.letE ⟨(.un .not), [(.var 13)]⟩
 (.ite (.var 14)
 (.jump 2 [(.bool true)])
 (.letE ⟨.len, [(.fld (.var 9) 1)]⟩
 (.letE ⟨(.bin .gtr 3), [(.var 15), (.int .i64 (4))]⟩
 (.ite (.var 16)
 (.jump 2 [(.bool true)])
 (.letE ⟨(.bin .gtr 3), [(.var 4), (.int .i64 (0))]⟩
 (.ite (.var 17)
 (.letE ⟨(.bin .sub 3), [(.var 4), (.int .i64 (1))]⟩
 (.letE ⟨(.idx 2), [(.fld (.var 1) 1), (.var 18)]⟩
 (.letE ⟨.a, [(.fld (.var 19) 0)]⟩
 (.letE ⟨.text, [(.var 20)]⟩
 (.letE ⟨.text, [(.fld (.var 9) 0)]⟩
 (.letE ⟨(.bin .geq 9), [(.var 21), (.var 22)]⟩
 (.jump 2 [(.var 23)])))))))
 (.jump 2 [(.bool false)])))))))))))))))))
 (.ret [(.bool true)]))))
 (.jump 1 [(.bool false), (.int .i64 (0))])))
 (.call 86 [(.fld (.var 1) 0)] 1
 (.letE ⟨(.un .not), [(.var 2)]⟩
 (.ite (.var 3)
 (.jump 0 [(.bool true)])
 (.letE ⟨.len, [(.fld (.var 1) 1)]⟩
 (.letE ⟨(.bin .gtr 3), [(.var 4), (.int .i64 (6))]⟩
 (.jump 0 [(.var 5)]))))))))
/- loop.example/g00365/laws.toTomb -/
def sg100 : Sig := ⟨[.val], [((.pair (.sl (.int .u8)) (.pair (.int .i64) .unit)), (.pair (.own .sh) .sh))], false⟩
def hi100 : Hints := []
def ir100 : IR := (.letE ⟨(.all 2), [(.var 0)]⟩
 (.call 40 [(.fld (.var 1) 0)] 1
 (.letE ⟨.atom, [(.var 2)]⟩
 (.letE ⟨.atom, [(.fld (.var 1) 1)]⟩
 (.letE ⟨.mk, [(.var 3), (.var 4)]⟩
 (.letE ⟨(.all 2), [(.var 5)]⟩
 (.letE ⟨.mk, [(.fld (.var 6) 0), (.fld (.var 6) 1)]⟩
 (.ret [(.var 7)]))))))))
/- loop.example/g00365/laws.toTombS -/
def sg43 : Sig := ⟨[.val], [((.sl (.pair (.sl (.int .u8)) (.pair (.int .i64) .unit))), (.own .sh))], false⟩
def hi43 : Hints := [((0, 3), ⟨[(4, .sh), (2, (.own .sh)), (3, (.own .sh))], [], []⟩)]
def ir43 : IR := (.letE ⟨.len, [(.var 0)]⟩
 (.letE ⟨.mk, [(.nil (.int .u8)), (.int .i64 (0))]⟩
 (.letE ⟨(.rep (.pair (.sl (.int .u8)) (.pair (.int .i64) .unit))), [(.var 1), (.var 2)]⟩
 (.label true
 (.letE ⟨.len, [(.var 0)]⟩
 (.letE ⟨(.bin .lss 3), [(.var 4), (.var 7)]⟩
 (.ite (.var 8)
 (.letE ⟨(.idx 2), [(.var 0), (.var 4)]⟩
 (.letE ⟨(.cells 0 2), [(.var 9)]⟩
 (.call 100 [(.var 10)] 1
 (.letE ⟨(.idx 2), [(.var 6), (.var 4)]⟩
 (.letE ⟨(.setE 2), [(.var 6), (.var 4), (.var 11)]⟩
 (.letE ⟨(.bin .add 3), [(.var 4), (.int .i64 (1))]⟩
 (.jump 0 [(.var 14), (.var 5), (.var 13)])))))))
 (.ret [(.var 6)]))))
 (.jump 0 [(.int .i64 (0)), (.nil (.pair (.sl (.int .u8)) (.pair (.int .i64) .unit))), (.var 3)])))))
/- loop.example/g00365/laws.toRow -/
def sg99 : Sig := ⟨[.val], [((.pair (.sl (.int .u8)) (.pair (.sl (.int .u8)) (.pair (.int .i64) (.pair (.int .i64) .unit)))), (.pair (.own .sh) (.pair (.own .sh) .sh)))], false⟩
def hi99 : Hints := []
def ir99 : IR := (.letE ⟨(.all 4), [(.var 0)]⟩
 (.call 40 [(.fld (.var 1) 0)] 1
 (.letE ⟨.atom, [(.var 2)]⟩
 (.call 40 [(.fld (.var 1) 1)] 1
 (.letE ⟨.atom, [(.var 4)]⟩
 (.letE ⟨.atom, [(.fld (.var 1) 2)]⟩
 (.letE ⟨.atom, [(.fld (.var 1) 3)]⟩
 (.letE ⟨.mk, [(.var 3), (.var 5), (.var 6), (.var 7)]⟩
 (.letE ⟨(.all 4), [(.var 8)]⟩
 (.letE ⟨.mk, [(.fld (.var 9) 0), (.fld (.var 9) 1), (.fld (.var 9) 2), (.fld (.var 9) 3)]⟩
 (.ret [(.var 10)])))))))))))
/- loop.example/g00365/laws.toRowS -/
def sg42 : Sig := ⟨[.val], [((.sl (.pair (.sl (.int .u8)) (.pair (.sl (.int .u8)) (.pair (.int .i64) (.pair (.int .i64) .unit))))), (.own .sh))], false⟩
def hi42 : Hints := [((0, 3), ⟨[(4, .sh), (2, (.own .sh)), (3, (.own .sh))], [], []⟩)]
def ir42 : IR := (.letE ⟨.len, [(.var 0)]⟩
 (.letE ⟨.mk, [(.nil (.int .u8)), (.nil (.int .u8)), (.int .i64 (0)), (.int .i64 (0))]⟩
 (.letE ⟨(.rep (.pair (.sl (.int .u8)) (.pair (.sl (.int .u8)) (.pair (.int .i64) (.pair (.int .i64) .unit))))), [(.var 1), (.var 2)]⟩
 (.label true
 (.letE ⟨.len, [(.var 0)]⟩
 (.letE ⟨(.bin .lss 3), [(.var 4), (.var 7)]⟩
 (.ite (.var 8)
 (.letE ⟨(.idx 4), [(.var 0), (.var 4)]⟩
 (.letE ⟨(.cells 0 4), [(.var 9)]⟩
 (.call 99 [(.var 10)] 1
 (.letE ⟨(.idx 4), [(.var 6), (.var 4)]⟩
 (.letE ⟨(.setE 4), [(.var 6), (.var 4), (.var 11)]⟩
 (.letE ⟨(.bin .add 3), [(.var 4), (.int .i64 (1))]⟩
 (.jump 0 [(.var 14), (.var 5), (.var 13)])))))))
 (.ret [(.var 6)]))))
 (.jump 0 [(.int .i64 (0)), (.nil (.pair (.sl (.int .u8)) (.pair (.sl (.int .u8)) (.pair (.int .i64) (.pair (.int .i64) .unit))))), (.var 3)])))))
/- loop.example/g00365/laws.toState -/
def sg10 : Sig := ⟨[.val], [((.pair (.int .i64) (.pair (.sl (.pair (.sl (.int .u8)) (.pair (.sl (.int .u8)) (.pair (.int .i64) (.pair (.int .i64) .unit))))) (.pair (.sl (.pair (.sl (.int .u8)) (.pair (.int .i64) .unit))) (.pair (.int .i64) (.pair (.sl (.pair (.int .i64) (.pair .bool .unit))) (.pair (.sl (.pair (.int .i64) (.pair (.int .i64) (.pair (.int .i64) (.pair (.int .i64) .unit))))) .unit)))))), (.pair .sh (.pair (.own .sh) (.pair (.own .sh) (.pair .sh (.pair (.own .sh) (.pair (.own .sh) .sh)))))))], false⟩
def hi10 : Hints := []
def ir10 : IR := (.letE ⟨(.all 6), [(.var 0)]⟩
 (.letE ⟨.atom, [(.fld (.var 1) 0)]⟩
 (.call 42 [(.fld (.var 1) 1)] 1
 (.letE ⟨.atom, [(.var 3)]⟩
 (.call 43 [(.fld (.var 1) 2)] 1
 (.letE ⟨.atom, [(.var 5)]⟩
 (.letE ⟨.atom, [(.fld (.var 1) 3)]⟩
 (.call 44 [(.fld (.var 1) 4)] 1
 (.letE ⟨.atom, [(.var 8)]⟩
 (.call 45 [(.fld (.var 1) 5)] 1
 (.letE ⟨.atom, [(.var 10)]⟩
 (.letE ⟨.mk, [(.var 2), (.var 4), (.var 6), (.var 7), (.var 9), (.var 11)]⟩
 (.letE ⟨(.all 6), [(.var 12)]⟩
 (.letE ⟨.mk, [(.fld (.var 13) 0), (.fld (.var 13) 1), (.fld (.var 13) 2), (.fld (.var 13) 3), (.fld (.var 13) 4), (.fld (.var 13) 5)]⟩
 (.ret [(.var 14)])))))))))))))))
/- loop.example/g00365/laws.toCheck -/
def sg164 : Sig := ⟨[.val], [((.pair (.sl (.int .u8)) (.pair (.int .i64) (.pair (.int .i64) (.pair (.int .i64) (.pair (.int .i64) (.pair (.int .i64) .unit)))))), (.pair (.own .sh) .sh))], false⟩
def hi164 : Hints := []
def ir164 : IR := (.letE ⟨(.all 6), [(.var 0)]⟩
 (.call 40 [(.fld (.var 1) 0)] 1
 (.letE ⟨.atom, [(.var 2)]⟩
 (.letE ⟨.atom, [(.fld (.var 1) 1)]⟩
 (.letE ⟨.atom, [(.fld (.var 1) 2)]⟩
 (.letE ⟨.atom, [(.fld (.var 1) 3)]⟩
 (.letE ⟨.atom, [(.fld (.var 1) 4)]⟩
 (.letE ⟨.atom, [(.fld (.var 1) 5)]⟩
 (.letE ⟨.mk, [(.var 3), (.var 4), (.var 5), (.var 6), (.var 7), (.var 8)]⟩
 (.letE ⟨(.all 6), [(.var 9)]⟩
 (.letE ⟨.mk, [(.fld (.var 10) 0), (.fld (.var 10) 1), (.fld (.var 10) 2), (.fld (.var 10) 3), (.fld (.var 10) 4), (.fld (.var 10) 5)]⟩
 (.ret [(.var 11)]))))))))))))
/- loop.example/g00365/laws.toCheckS -/
def sg139 : Sig := ⟨[.val], [((.sl (.pair (.sl (.int .u8)) (.pair (.int .i64) (.pair (.int .i64) (.pair (.int .i64) (.pair (.int .i64) (.pair (.int .i64) .unit))))))), (.own .sh))], false⟩
def hi139 : Hints := [((0, 3), ⟨[(4, .sh), (2, (.own .sh)), (3, (.own .sh))], [], []⟩)]
def ir139 : IR := (.letE ⟨.len, [(.var 0)]⟩
 (.letE ⟨.mk, [(.nil (.int .u8)), (.int .i64 (0)), (.int .i64 (0)), (.int .i64 (0)), (.int .i64 (0)), (.int .i64 (0))]⟩
 (.letE ⟨(.rep (.pair (.sl (.int .u8)) (.pair (.int .i64) (.pair (.int .i64) (.pair (.int .i64) (.pair (.int .i64) (.pair (.int .i64) .unit))))))), [(.var 1), (.var 2)]⟩
 (.label true
 (.letE ⟨.len, [(.var 0)]⟩
 (.letE ⟨(.bin .lss 3), [(.var 4), (.var 7)]⟩
 (.ite (.var 8)
 (.letE ⟨(.idx 6), [(.var 0), (.var 4)]⟩
 (.letE ⟨(.cells 0 6), [(.var 9)]⟩
 (.call 164 [(.var 10)] 1
 (.letE ⟨(.idx 6), [(.var 6), (.var 4)]⟩
 (.letE ⟨(.setE 6), [(.var 6), (.var 4), (.var 11)]⟩
 (.letE ⟨(.bin .add 3), [(.var 4), (.int .i64 (1))]⟩
 (.jump 0 [(.var 14), (.var 5), (.var 13)])))))))
 (.ret [(.var 6)]))))
 (.jump 0 [(.int .i64 (0)), (.nil (.pair (.sl (.int .u8)) (.pair (.int .i64) (.pair (.int .i64) (.pair (.int .i64) (.pair (.int .i64) (.pair (.int .i64) .unit))))))), (.var 3)])))))
/- loop.example/g00365/laws.toService -/
def sg98 : Sig := ⟨[.val], [((.pair (.sl (.int .u8)) (.pair (.sl (.pair (.sl (.int .u8)) (.pair (.int .i64) (.pair (.int .i64) (.pair (.int .i64) (.pair (.int .i64) (.pair (.int .i64) .unit))))))) .unit)), (.pair (.own .sh) (.pair (.own .sh) .sh)))], false⟩
def hi98 : Hints := []
def ir98 : IR := (.letE ⟨(.all 2), [(.var 0)]⟩
 (.call 40 [(.fld (.var 1) 0)] 1
 (.letE ⟨.atom, [(.var 2)]⟩
 (.call 139 [(.fld (.var 1) 1)] 1
 (.letE ⟨.atom, [(.var 4)]⟩
 (.letE ⟨.mk, [(.var 3), (.var 5)]⟩
 (.letE ⟨(.all 2), [(.var 6)]⟩
 (.letE ⟨.mk, [(.fld (.var 7) 0), (.fld (.var 7) 1)]⟩
 (.ret [(.var 8)])))))))))
/- loop.example/g00365/laws.toServiceS -/
def sg41 : Sig := ⟨[.val], [((.sl (.pair (.sl (.int .u8)) (.pair (.sl (.pair (.sl (.int .u8)) (.pair (.int .i64) (.pair (.int .i64) (.pair (.int .i64) (.pair (.int .i64) (.pair (.int .i64) .unit))))))) .unit))), (.own .sh))], false⟩
def hi41 : Hints := [((0, 3), ⟨[(4, .sh), (2, (.own .sh)), (3, (.own .sh))], [], []⟩)]
def ir41 : IR := (.letE ⟨.len, [(.var 0)]⟩
 (.letE ⟨.mk, [(.nil (.int .u8)), (.nil (.pair (.sl (.int .u8)) (.pair (.int .i64) (.pair (.int .i64) (.pair (.int .i64) (.pair (.int .i64) (.pair (.int .i64) .unit)))))))]⟩
 (.letE ⟨(.rep (.pair (.sl (.int .u8)) (.pair (.sl (.pair (.sl (.int .u8)) (.pair (.int .i64) (.pair (.int .i64) (.pair (.int .i64) (.pair (.int .i64) (.pair (.int .i64) .unit))))))) .unit))), [(.var 1), (.var 2)]⟩
 (.label true
 (.letE ⟨.len, [(.var 0)]⟩
 (.letE ⟨(.bin .lss 3), [(.var 4), (.var 7)]⟩
 (.ite (.var 8)
 (.letE ⟨(.idx 2), [(.var 0), (.var 4)]⟩
 (.letE ⟨(.cells 0 2), [(.var 9)]⟩
 (.call 98 [(.var 10)] 1
 (.letE ⟨(.idx 2), [(.var 6), (.var 4)]⟩
 (.letE ⟨(.setE 2), [(.var 6), (.var 4), (.var 11)]⟩
 (.letE ⟨(.bin .add 3), [(.var 4), (.int .i64 (1))]⟩
 (.jump 0 [(.var 14), (.var 5), (.var 13)])))))))
 (.ret [(.var 6)]))))
 (.jump 0 [(.int .i64 (0)), (.nil (.pair (.sl (.int .u8)) (.pair (.sl (.pair (.sl (.int .u8)) (.pair (.int .i64) (.pair (.int .i64) (.pair (.int .i64) (.pair (.int .i64) (.pair (.int .i64) .unit))))))) .unit))), (.var 3)])))))
/- loop.example/g00365/laws.toLocal -/
def sg9 : Sig := ⟨[.val], [((.pair (.sl (.int .u8)) (.pair (.sl (.pair (.sl (.int .u8)) (.pair (.sl (.pair (.sl (.int .u8)) (.pair (.int .i64) (.pair (.int .i64) (.pair (.int .i64) (.pair (.int .i64) (.pair (.int .i64) .unit))))))) .unit))) .unit)), (.pair (.own .sh) (.pair (.own .sh) .sh)))], false⟩
def hi9 : Hints := []
def ir9 : IR := (.letE ⟨(.all 2), [(.var 0)]⟩
 (.call 40 [(.fld (.var 1) 0)] 1
 (.letE ⟨.atom, [(.var 2)]⟩
 (.call 41 [(.fld (.var 1) 1)] 1
 (.letE ⟨.atom, [(.var 4)]⟩
 (.letE ⟨.mk, [(.var 3), (.var 5)]⟩
 (.letE ⟨(.all 2), [(.var 6)]⟩
 (.letE ⟨.mk, [(.fld (.var 7) 0), (.fld (.var 7) 1)]⟩
 (.ret [(.var 8)])))))))))
/- loop.example/g00365/laws.szTomb -/
def sg85 : Sig := ⟨[.val, .val], [((.int .i64), .sh)], false⟩
def hi85 : Hints := []
def ir85 : IR := (.letE ⟨(.all 2), [(.var 0)]⟩
 (.call 31 [(.fld (.var 2) 0), (.var 1)] 1
 (.letE ⟨(.bin .lss 3), [(.var 3), (.int .i64 (0))]⟩
 (.ite (.var 4)
 (.ret [(.int .i64 (-1))])
 (.ret [(.var 3)])))))
/- loop.example/g00365/laws.szTombS -/
def sg34 : Sig := ⟨[.val, .val], [((.int .i64), .sh)], false⟩
def hi34 : Hints := [((0, 5), ⟨[(1, .sh), (4, .sh), (5, .sh)], [], []⟩)]
def ir34 : IR := (.letE ⟨.len, [(.var 0)]⟩
 (.letE ⟨(.bin .sub 3), [(.var 1), (.var 2)]⟩
 (.letE ⟨(.bin .lss 3), [(.var 3), (.int .i64 (0))]⟩
 (.ite (.var 4)
 (.ret [(.int .i64 (-1))])
 (.label true
 (.letE ⟨.len, [(.var 0)]⟩
 (.letE ⟨(.bin .lss 3), [(.var 7), (.var 8)]⟩
 (.ite (.var 9)
 (.letE ⟨(.idx 2), [(.var 0), (.var 7)]⟩
 (.letE ⟨(.cells 0 2), [(.var 10)]⟩
 (.call 85 [(.var 11), (.var 5)] 1
 (.letE ⟨(.bin .lss 3), [(.var 12), (.int .i64 (0))]⟩
 (.ite (.var 13)
 (.ret [(.int .i64 (-1))])
 (.letE ⟨(.bin .add 3), [(.var 7), (.int .i64 (1))]⟩
 (.jump 0 [(.var 12), (.var 6), (.var 14)])))))))
 (.ret [(.var 5)]))))
 (.jump 0 [(.var 3), (.int .i64 (0)), (.int .i64 (0))]))))))
/- loop.example/g00365/laws.szRow -/
def sg84 : Sig := ⟨[.val, .val], [((.int .i64), .sh)], false⟩
def hi84 : Hints := []
def ir84 : IR := (.letE ⟨(.all 4), [(.var 0)]⟩
 (.call 31 [(.fld (.var 2) 0), (.var 1)] 1
 (.letE ⟨(.bin .lss 3), [(.var 3), (.int .i64 (0))]⟩
 (.ite (.var 4)
 (.ret [(.int .i64 (-1))])
 (.call 31 [(.fld (.var 2) 1), (.var 3)] 1
 (.letE ⟨(.bin .lss 3), [(.var 5), (.int .i64 (0))]⟩
 (.ite (.var 6)
 (.ret [(.int .i64 (-1))])
 (.ret [(.var 5)]))))))))
/- loop.example/g00365/laws.szRowS -/
def sg33 : Sig := ⟨[.val, .val], [((.int .i64), .sh)], false⟩
def hi33 : Hints := [((0, 5), ⟨[(1, .sh), (4, .sh), (5, .sh)], [], []⟩)]
def ir33 : IR := (.letE ⟨.len, [(.var 0)]⟩
 (.letE ⟨(.bin .sub 3), [(.var 1), (.var 2)]⟩
 (.letE ⟨(.bin .lss 3), [(.var 3), (.int .i64 (0))]⟩
 (.ite (.var 4)
 (.ret [(.int .i64 (-1))])
 (.label true
 (.letE ⟨.len, [(.var 0)]⟩
 (.letE ⟨(.bin .lss 3), [(.var 7), (.var 8)]⟩
 (.ite (.var 9)
 (.letE ⟨(.idx 4), [(.var 0), (.var 7)]⟩
 (.letE ⟨(.cells 0 4), [(.var 10)]⟩
 (.call 84 [(.var 11), (.var 5)] 1
 (.letE ⟨(.bin .lss 3), [(.var 12), (.int .i64 (0))]⟩
 (.ite (.var 13)
 (.ret [(.int .i64 (-1))])
 (.letE ⟨(.bin .add 3), [(.var 7), (.int .i64 (1))]⟩
 (.jump 0 [(.var 12), (.var 6), (.var 14)])))))))
 (.ret [(.var 5)]))))
 (.jump 0 [(.var 3), (.int .i64 (0)), (.int .i64 (0))]))))))
/- loop.example/g00365/laws.szState -/
def sg7 : Sig := ⟨[.val, .val], [((.int .i64), .sh)], false⟩
def hi7 : Hints := []
def ir7 : IR := (.letE ⟨(.all 6), [(.var 0)]⟩
 (.call 33 [(.fld (.var 2) 1), (.var 1)] 1
 (.letE ⟨(.bin .lss 3), [(.var 3), (.int .i64 (0))]⟩
 (.ite (.var 4)
 (.ret [(.int .i64 (-1))])
 (.call 34 [(.fld (.var 2) 2), (.var 3)] 1
 (.letE ⟨(.bin .lss 3), [(.var 5), (.int .i64 (0))]⟩
 (.ite (.var 6)
 (.ret [(.int .i64 (-1))])
 (.call 35 [(.fld (.var 2) 4), (.var 5)] 1
 (.letE ⟨(.bin .lss 3), [(.var 7), (.int .i64 (0))]⟩
 (.ite (.var 8)
 (.ret [(.int .i64 (-1))])
 (.call 36 [(.fld (.var 2) 5), (.var 7)] 1
 (.letE ⟨(.bin .lss 3), [(.var 9), (.int .i64 (0))]⟩
 (.ite (.var 10)
 (.ret [(.int .i64 (-1))])
 (.ret [(.var 9)]))))))))))))))
/- loop.example/g00365/laws.szCheck -/
def sg163 : Sig := ⟨[.val, .val], [((.int .i64), .sh)], false⟩
def hi163 : Hints := []
def ir163 : IR := (.letE ⟨(.all 6), [(.var 0)]⟩
 (.call 31 [(.fld (.var 2) 0), (.var 1)] 1
 (.letE ⟨(.bin .lss 3), [(.var 3), (.int .i64 (0))]⟩
 (.ite (.var 4)
 (.ret [(.int .i64 (-1))])
 (.ret [(.var 3)])))))
/- loop.example/g00365/laws.szCheckS -/
def sg136 : Sig := ⟨[.val, .val], [((.int .i64), .sh)], false⟩
def hi136 : Hints := [((0, 5), ⟨[(1, .sh), (4, .sh), (5, .sh)], [], []⟩)]
def ir136 : IR := (.letE ⟨.len, [(.var 0)]⟩
 (.letE ⟨(.bin .sub 3), [(.var 1), (.var 2)]⟩
 (.letE ⟨(.bin .lss 3), [(.var 3), (.int .i64 (0))]⟩
 (.ite (.var 4)
 (.ret [(.int .i64 (-1))])
 (.label true
 (.letE ⟨.len, [(.var 0)]⟩
 (.letE ⟨(.bin .lss 3), [(.var 7), (.var 8)]⟩
 (.ite (.var 9)
 (.letE ⟨(.idx 6), [(.var 0), (.var 7)]⟩
 (.letE ⟨(.cells 0 6), [(.var 10)]⟩
 (.call 163 [(.var 11), (.var 5)] 1
 (.letE ⟨(.bin .lss 3), [(.var 12), (.int .i64 (0))]⟩
 (.ite (.var 13)
 (.ret [(.int .i64 (-1))])
 (.letE ⟨(.bin .add 3), [(.var 7), (.int .i64 (1))]⟩
 (.jump 0 [(.var 12), (.var 6), (.var 14)])))))))
 (.ret [(.var 5)]))))
 (.jump 0 [(.var 3), (.int .i64 (0)), (.int .i64 (0))]))))))
/- loop.example/g00365/laws.szService -/
def sg83 : Sig := ⟨[.val, .val], [((.int .i64), .sh)], false⟩
def hi83 : Hints := []
def ir83 : IR := (.letE ⟨(.all 2), [(.var 0)]⟩
 (.call 31 [(.fld (.var 2) 0), (.var 1)] 1
 (.letE ⟨(.bin .lss 3), [(.var 3), (.int .i64 (0))]⟩
 (.ite (.var 4)
 (.ret [(.int .i64 (-1))])
 (.call 136 [(.fld (.var 2) 1), (.var 3)] 1
 (.letE ⟨(.bin .lss 3), [(.var 5), (.int .i64 (0))]⟩
 (.ite (.var 6)
 (.ret [(.int .i64 (-1))])
 (.ret [(.var 5)]))))))))
/- loop.example/g00365/laws.szServiceS -/
def sg32 : Sig := ⟨[.val, .val], [((.int .i64), .sh)], false⟩
def hi32 : Hints := [((0, 5), ⟨[(1, .sh), (4, .sh), (5, .sh)], [], []⟩)]
def ir32 : IR := (.letE ⟨.len, [(.var 0)]⟩
 (.letE ⟨(.bin .sub 3), [(.var 1), (.var 2)]⟩
 (.letE ⟨(.bin .lss 3), [(.var 3), (.int .i64 (0))]⟩
 (.ite (.var 4)
 (.ret [(.int .i64 (-1))])
 (.label true
 (.letE ⟨.len, [(.var 0)]⟩
 (.letE ⟨(.bin .lss 3), [(.var 7), (.var 8)]⟩
 (.ite (.var 9)
 (.letE ⟨(.idx 2), [(.var 0), (.var 7)]⟩
 (.letE ⟨(.cells 0 2), [(.var 10)]⟩
 (.call 83 [(.var 11), (.var 5)] 1
 (.letE ⟨(.bin .lss 3), [(.var 12), (.int .i64 (0))]⟩
 (.ite (.var 13)
 (.ret [(.int .i64 (-1))])
 (.letE ⟨(.bin .add 3), [(.var 7), (.int .i64 (1))]⟩
 (.jump 0 [(.var 12), (.var 6), (.var 14)])))))))
 (.ret [(.var 5)]))))
 (.jump 0 [(.var 3), (.int .i64 (0)), (.int .i64 (0))]))))))
/- loop.example/g00365/laws.szLocal -/
def sg6 : Sig := ⟨[.val, .val], [((.int .i64), .sh)], false⟩
def hi6 : Hints := []
def ir6 : IR := (.letE ⟨(.all 2), [(.var 0)]⟩
 (.call 31 [(.fld (.var 2) 0), (.var 1)] 1
 (.letE ⟨(.bin .lss 3), [(.var 3), (.int .i64 (0))]⟩
 (.ite (.var 4)
 (.ret [(.int .i64 (-1))])
 (.call 32 [(.fld (.var 2) 1), (.var 3)] 1
 (.letE ⟨(.bin .lss 3), [(.var 5), (.int .i64 (0))]⟩
 (.ite (.var 6)
 (.ret [(.int .i64 (-1))])
 (.ret [(.var 5)]))))))))
/- slices.IndexFunc[[]loop.example/g00365/impl.Pair,loop.example/g00365/impl.Pair] -/
def sg121 : Sig := ⟨[.val, (.fn 58 1)], [((.int .i64), .sh)], false⟩
def hi121 : Hints := [((0, 2), ⟨[(4, .sh), (8, .sh)], [], []⟩)]
def ir121 : IR := (.letE ⟨.len, [(.var 0)]⟩
 (.label true
 (.letE ⟨(.bin .lss 3), [(.var 4), (.var 2)]⟩
 (.ite (.var 5)
 (.letE ⟨(.idx 2), [(.var 0), (.var 4)]⟩
 (.letE ⟨(.cells 0 2), [(.var 6)]⟩
 (.call 58 [(.var 7), (.var 1)] 1
 (.ite (.var 8)
 (.ret [(.var 4)])
 (.letE ⟨(.bin .add 3), [(.var 4), (.int .i64 (1))]⟩
 (.jump 0 [(.var 3), (.var 9)]))))))
 (.ret [(.int .i64 (-1))])))
 (.jump 0 [(.int .i64 (0)), (.int .i64 (0))])))
/- slices.ContainsFunc[[]loop.example/g00365/impl.Pair,loop.example/g00365/impl.Pair] -/
def sg57 : Sig := ⟨[.val, (.fn 58 1)], [(.bool, .sh)], false⟩
def hi57 : Hints := []
def ir57 : IR := (.call 121 [(.var 0), (.var 1)] 1
 (.letE ⟨(.bin .geq 3), [(.var 2), (.int .i64 (0))]⟩
 (.ret [(.var 3)])))
/- loop.example/g00365/impl.Worst -/
def sg118 : Sig := ⟨[.val], [((.int .i64), .sh)], false⟩
def hi118 : Hints := [((0, 3), ⟨[(2, .sh), (3, .sh), (8, .sh)], [], []⟩)]
def ir118 : IR := (.letE ⟨.len, [(.var 0)]⟩
 (.label true
 (.letE ⟨(.bin .lss 3), [(.var 4), (.var 1)]⟩
 (.ite (.var 5)
 (.letE ⟨(.idx 6), [(.var 0), (.var 4)]⟩
 (.letE ⟨(.cells 0 6), [(.var 6)]⟩
 (.letE ⟨(.all 6), [(.var 7)]⟩
 (.letE ⟨.mk, [(.fld (.var 8) 0), (.fld (.var 8) 1), (.fld (.var 8) 2), (.fld (.var 8) 3), (.fld (.var 8) 4), (.fld (.var 8) 5)]⟩
 (.call 112 [(.var 9)] 1
 (.letE ⟨(.un .not), [(.var 10)]⟩
 (.ite (.var 11)
 (.ret [(.int .i64 (2))])
 (.letE ⟨.mx, [(.var 3), (.fld (.var 8) 3)]⟩
 (.letE ⟨(.bin .add 3), [(.var 4), (.int .i64 (1))]⟩
 (.jump 0 [(.var 2), (.var 12), (.var 13)]))))))))))
 (.ret [(.var 3)])))
 (.jump 0 [(.int .i64 (0)), (.int .i64 (0)), (.int .i64 (0))])))
/- (loop.example/g00365/impl.Local).want -/
def sg54 : Sig := ⟨[.val], [((.sl (.pair (.sl (.int .u8)) (.pair (.sl (.int .u8)) .unit))), (.own .sh))], false⟩
def hi54 : Hints := [((0, 3), ⟨[(3, (.own .sh)), (9, .sh), (2, (.own .sh))], [], []⟩)]
def ir54 : IR := (.letE ⟨(.all 2), [(.var 0)]⟩
 (.letE ⟨.len, [(.fld (.var 1) 1)]⟩
 (.label true
 (.letE ⟨(.bin .lss 3), [(.var 4), (.var 2)]⟩
 (.ite (.var 6)
 (.letE ⟨(.idx 2), [(.fld (.var 1) 1), (.var 4)]⟩
 (.letE ⟨(.cells 0 2), [(.var 7)]⟩
 (.letE ⟨(.all 2), [(.var 8)]⟩
 (.letE ⟨.mk, [(.fld (.var 1) 0), (.fld (.var 1) 1)]⟩
 (.call 110 [(.var 10), (.fld (.var 9) 0)] 1
 (.call 118 [(.fld (.var 9) 1)] 1
 (.call 117 [(.var 12)] 1
 (.letE ⟨.atom, [(.var 11)]⟩
 (.letE ⟨.atom, [(.var 13)]⟩
 (.letE ⟨.mk, [(.var 14), (.var 15)]⟩
 (.letE ⟨(.lst (.pair (.sl (.int .u8)) (.pair (.sl (.int .u8)) .unit))), [(.var 16)]⟩
 (.letE ⟨(.app (.pair (.sl (.int .u8)) (.pair (.sl (.int .u8)) .unit))), [(.var 3), (.var 17)]⟩
 (.letE ⟨(.bin .add 3), [(.var 4), (.int .i64 (1))]⟩
 (.jump 0 [(.var 18), (.var 19), (.var 5)]))))))))))))))
 (.ret [(.var 3)])))
 (.jump 0 [(.nil (.pair (.sl (.int .u8)) (.pair (.sl (.int .u8)) .unit))), (.int .i64 (0)), (.nil (.pair (.sl (.int .u8)) (.pair (.sl (.int .u8)) .unit)))]))))
/- loop.example/g00365/impl.Plan -/
def sg15 : Sig := ⟨[.val, .val], [((.sl (.pair (.int .i64) (.pair (.sl (.int .u8)) (.pair (.sl (.int .u8)) (.pair (.int .i64) .unit))))), (.own .sh)), (.bool, .sh)], false⟩
def hi15 : Hints := [((0, 12), ⟨[(7, (.own .sh)), (52, .sh), (4, (.own .sh)), (6, (.own .sh))], [], []⟩), ((0, 6), ⟨[(7, (.own .sh)), (27, .sh), (4, (.own .sh)), (6, (.own .sh))], [], []⟩)]
def ir15 : IR := (.letE ⟨(.all 2), [(.var 0)]⟩
 (.letE ⟨(.all 6), [(.var 1)]⟩
 (.letE ⟨.mk, [(.fld (.var 2) 0), (.fld (.var 2) 1)]⟩
 (.call 52 [(.var 4)] 1
 (.letE ⟨(.un .not), [(.var 5)]⟩
 (.ite (.var 6)
 (.ret [(.nil (.pair (.int .i64) (.pair (.sl (.int .u8)) (.pair (.sl (.int .u8)) (.pair (.int .i64) .unit))))), (.bool false)])
 (.letE ⟨.mk, [(.fld (.var 3) 0), (.fld (.var 3) 1), (.fld (.var 3) 2), (.fld (.var 3) 3), (.fld (.var 3) 4), (.fld (.var 3) 5)]⟩
 (.call 53 [(.var 7)] 1
 (.letE ⟨(.un .not), [(.var 8)]⟩
 (.ite (.var 9)
 (.ret [(.nil (.pair (.int .i64) (.pair (.sl (.int .u8)) (.pair (.sl (.int .u8)) (.pair (.int .i64) .unit))))), (.bool false)])
 (.letE ⟨.mk, [(.fld (.var 2) 0), (.fld (.var 2) 1)]⟩
 (.call 54 [(.var 10)] 1
 (.letE ⟨.len, [(.fld (.var 3) 1)]⟩
 (.label true
 (.letE ⟨(.bin .lss 3), [(.var 14), (.var 12)]⟩
 (.ite (.var 17)
 (.letE ⟨(.idx 4), [(.fld (.var 3) 1), (.var 14)]⟩
 (.letE ⟨(.cells 0 4), [(.var 18)]⟩
 (.letE ⟨(.all 4), [(.var 19)]⟩
 (.letE ⟨.mk, [(.fld (.var 2) 0), (.fld (.var 2) 1)]⟩
 (.call 56 [(.var 21)] 1
 (.call 55 [(.fld (.var 20) 0), (.var 22)] 1
 (.ite (.var 23)
 (.letE ⟨.mk, [(.fld (.var 20) 0), (.fld (.var 20) 1), (.fld (.var 20) 2), (.fld (.var 20) 3)]⟩
 (.call 57 [(.var 16), (.var 24)] 1
 (.letE ⟨(.un .not), [(.var 25)]⟩
 (.ite (.var 26)
 (.call 60 [(.fld (.var 20) 0)] 1
 (.letE ⟨.atom, [(.int .i64 (3))]⟩
 (.letE ⟨.atom, [(.var 27)]⟩
 (.letE ⟨.mk, [(.var 28), (.var 29), (.nil (.int .u8)), (.int .i64 (0))]⟩
 (.letE ⟨(.lst (.pair (.int .i64) (.pair (.sl (.int .u8)) (.pair (.sl (.int .u8)) (.pair (.int .i64) .unit))))), [(.var 30)]⟩
 (.letE ⟨(.app (.pair (.int .i64) (.pair (.sl (.int .u8)) (.pair (.sl (.int .u8)) (.pair (.int .i64) .unit))))), [(.var 13), (.var 31)]⟩
 (.letE ⟨(.bin .add 3), [(.var 14), (.int .i64 (1))]⟩
 (.jump 0 [(.var 32), (.var 33), (.var 15), (.var 16)]))))))))
 (.letE ⟨(.bin .add 3), [(.var 14), (.int .i64 (1))]⟩
 (.jump 0 [(.var 13), (.var 27), (.var 15), (.var 16)]))))))
 (.letE ⟨(.bin .add 3), [(.var 14), (.int .i64 (1))]⟩
 (.jump 0 [(.var 13), (.var 24), (.var 15), (.var 16)])))))))))
 (.letE ⟨.len, [(.var 16)]⟩
 (.label true
 (.letE ⟨(.bin .lss 3), [(.var 20), (.var 18)]⟩
 (.ite (.var 23)
 (.letE ⟨(.idx 2), [(.var 22), (.var 20)]⟩
 (.letE ⟨(.idx 2), [(.var 22), (.var 20)]⟩
 (.letE ⟨(.cells 0 2), [(.var 25)]⟩
 (.letE ⟨(.all 2), [(.var 26)]⟩
 (.letE ⟨.mk, [(.fld (.var 3) 0), (.fld (.var 3) 1), (.fld (.var 3) 2), (.fld (.var 3) 3), (.fld (.var 3) 4), (.fld (.var 3) 5)]⟩
 (.call 61 [(.var 28), (.fld (.var 27) 0)] 2
 (.letE ⟨(.un .not), [(.var 30)]⟩
 (.ite (.var 31)
 (.letE ⟨.atom, [(.int .i64 (1))]⟩
 (.letE ⟨.atom, [(.fld (.var 27) 0)]⟩
 (.letE ⟨.atom, [(.fld (.var 27) 1)]⟩
 (.letE ⟨.mk, [(.var 32), (.var 33), (.var 34), (.int .i64 (0))]⟩
 (.letE ⟨(.lst (.pair (.int .i64) (.pair (.sl (.int .u8)) (.pair (.sl (.int .u8)) (.pair (.int .i64) .unit))))), [(.var 35)]⟩
 (.letE ⟨(.app (.pair (.int .i64) (.pair (.sl (.int .u8)) (.pair (.sl (.int .u8)) (.pair (.int .i64) .unit))))), [(.var 19), (.var 36)]⟩
 (.letE ⟨(.bin .add 3), [(.var 20), (.int .i64 (1))]⟩
 (.jump 1 [(.var 37), (.var 38), (.var 21), (.var 22)]))))))))
 (.letE ⟨(.idx 4), [(.fld (.var 3) 1), (.var 29)]⟩
 (.letE ⟨.a, [(.fld (.var 32) 1)]⟩
 (.call 59 [(.var 33), (.fld (.var 27) 1)] 1
 (.letE ⟨(.un .not), [(.var 34)]⟩
 (.ite (.var 35)
 (.letE ⟨.atom, [(.int .i64 (1))]⟩
 (.letE ⟨.atom, [(.fld (.var 27) 0)]⟩
 (.letE ⟨.atom, [(.fld (.var 27) 1)]⟩
 (.letE ⟨.mk, [(.var 36), (.var 37), (.var 38), (.int .i64 (0))]⟩
 (.letE ⟨(.lst (.pair (.int .i64) (.pair (.sl (.int .u8)) (.pair (.sl (.int .u8)) (.pair (.int .i64) .unit))))), [(.var 39)]⟩
 (.letE ⟨(.app (.pair (.int .i64) (.pair (.sl (.int .u8)) (.pair (.sl (.int .u8)) (.pair (.int .i64) .unit))))), [(.var 19), (.var 40)]⟩
 (.letE ⟨(.bin .add 3), [(.var 20), (.int .i64 (1))]⟩
 (.jump 1 [(.var 41), (.var 42), (.var 21), (.var 22)]))))))))
 (.letE ⟨(.bin .add 3), [(.var 20), (.int .i64 (1))]⟩
 (.jump 1 [(.var 19), (.var 36), (.var 21), (.var 22)])))))))))))))))
 (.ret [(.var 19), (.bool true)])))
 (.jump 1 [(.var 13), (.int .i64 (0)), (.var 15), (.var 16)])))))
 (.jump 0 [(.nil (.pair (.int .i64) (.pair (.sl (.int .u8)) (.pair (.sl (.int .u8)) (.pair (.int .i64) .unit))))), (.int .i64 (0)), (.nil (.pair (.int .i64) (.pair (.sl (.int .u8)) (.pair (.sl (.int .u8)) (.pair (.int .i64) .unit))))), (.var 11)])))))))))))))))
/- loop.example/g00365/impl.Synced -/
def sg11 : Sig := ⟨[.val, .val], [(.bool, .sh)], false⟩
def hi11 : Hints := []
def ir11 : IR := (.letE ⟨(.all 2), [(.var 0)]⟩
 (.letE ⟨(.all 6), [(.var 1)]⟩
 (.letE ⟨.mk, [(.fld (.var 2) 0), (.fld (.var 2) 1)]⟩
 (.letE ⟨.mk, [(.fld (.var 3) 0), (.fld (.var 3) 1), (.fld (.var 3) 2), (.fld (.var 3) 3), (.fld (.var 3) 4), (.fld (.var 3) 5)]⟩
 (.call 15 [(.var 4), (.var 5)] 2
 (.ite (.var 7)
 (.letE ⟨.len, [(.var 6)]⟩
 (.letE ⟨(.bin .eql 3), [(.var 8), (.int .i64 (0))]⟩
 (.ret [(.var 9)])))
 (.ret [(.bool false)])))))))
/- loop.example/g00365/spec.Worst -/
def sg138 : Sig := ⟨[.val], [((.int .i64), .sh)], false⟩
def hi138 : Hints := [((0, 3), ⟨[(2, .sh), (3, .sh), (4, .sh)], [], []⟩)]
def ir138 : IR := (.label true
 (.letE ⟨.len, [(.var 0)]⟩
 (.letE ⟨(.bin .lss 3), [(.var 3), (.var 4)]⟩
 (.ite (.var 5)
 (.letE ⟨(.idx 6), [(.var 0), (.var 3)]⟩
 (.letE ⟨(.cells 0 6), [(.var 6)]⟩
 (.call 89 [(.var 7)] 1
 (.letE ⟨(.un .not), [(.var 8)]⟩
 (.ite (.var 9)
 (.ret [(.int .i64 (2))])
 (.letE ⟨(.idx 6), [(.var 0), (.var 3)]⟩
 (.letE ⟨.a, [(.fld (.var 10) 3)]⟩
 (.letE ⟨(.bin .gtr 3), [(.var 11), (.var 2)]⟩
 (.ite (.var 12)
 (.letE ⟨(.idx 6), [(.var 0), (.var 3)]⟩
 (.letE ⟨.a, [(.fld (.var 13) 3)]⟩
 (.letE ⟨(.bin .add 3), [(.var 3), (.int .i64 (1))]⟩
 (.jump 0 [(.var 1), (.var 14), (.var 15)]))))
 (.letE ⟨(.bin .add 3), [(.var 3), (.int .i64 (1))]⟩
 (.jump 0 [(.var 1), (.var 2), (.var 13)])))))))))))
 (.ret [(.var 2)]))))
 (.jump 0 [(.int .i64 (0)), (.int .i64 (0)), (.int .i64 (0))]))
/- loop.example/g00365/spec.l14want -/
def sg95 : Sig := ⟨[.val], [((.sl (.pair (.sl (.int .u8)) (.pair (.sl (.int .u8)) .unit))), (.own .sh))], false⟩
def hi95 : Hints := [((0, 3), ⟨[(3, (.own .sh)), (4, .sh), (2, (.own .sh))], [], []⟩)]
def ir95 : IR := (.letE ⟨(.all 2), [(.var 0)]⟩
 (.label true
 (.letE ⟨.len, [(.fld (.var 1) 1)]⟩
 (.letE ⟨(.bin .lss 3), [(.var 3), (.var 5)]⟩
 (.ite (.var 6)
 (.letE ⟨(.idx 2), [(.fld (.var 1) 1), (.var 3)]⟩
 (.letE ⟨(.cells 0 2), [(.var 7)]⟩
 (.letE ⟨(.all 2), [(.var 8)]⟩
 (.call 88 [(.fld (.var 1) 0), (.fld (.var 9) 0)] 1
 (.call 138 [(.fld (.var 9) 1)] 1
 (.call 137 [(.var 11)] 1
 (.letE ⟨.atom, [(.var 10)]⟩
 (.letE ⟨.atom, [(.var 12)]⟩
 (.letE ⟨.mk, [(.var 13), (.var 14)]⟩
 (.letE ⟨(.lst (.pair (.sl (.int .u8)) (.pair (.sl (.int .u8)) .unit))), [(.var 15)]⟩
 (.letE ⟨(.app (.pair (.sl (.int .u8)) (.pair (.sl (.int .u8)) .unit))), [(.var 2), (.var 16)]⟩
 (.letE ⟨(.bin .add 3), [(.var 3), (.int .i64 (1))]⟩
 (.jump 0 [(.var 17), (.var 18), (.var 4)])))))))))))))
 (.ret [(.var 2)]))))
 (.jump 0 [(.nil (.pair (.sl (.int .u8)) (.pair (.sl (.int .u8)) .unit))), (.int .i64 (0)), (.nil (.pair (.sl (.int .u8)) (.pair (.sl (.int .u8)) .unit)))])))
/- loop.example/g00365/spec.l14plan -/
def sg39 : Sig := ⟨[.val, .val], [((.sl (.pair (.int .i64) (.pair (.sl (.int .u8)) (.pair (.sl (.int .u8)) (.pair (.int .i64) .unit))))), (.own .sh))], false⟩
def hi39 : Hints := [((1, 11), ⟨[(5, (.own .sh))], [], [10, 60, 61, 62, 63, 64, 65, 66, 84, 86, 87, 88, 89, 90, 91, 92, 93, 94, 95, 96, 97]⟩), ((1, 14), ⟨[(84, .sh)], [], [67, 68, 69, 70, 71, 72, 73, 74, 75, 76, 77, 78, 79, 80, 81, 82, 83]⟩), ((0, 10), ⟨[(5, (.own .sh)), (9, .sh), (4, (.own .sh)), (6, (.own .sh)), (7, (.own .sh))], [], []⟩), ((1, 6), ⟨[(5, (.own .sh))], [], [41, 44, 45, 46, 47, 48, 49, 51, 52]⟩), ((1, 8), ⟨[(41, .sh)], [], [23, 24, 25, 26, 27, 28, 29, 30, 31, 32, 33, 34, 35, 36, 37, 38, 39, 40]⟩), ((0, 5), ⟨[(5, (.own .sh)), (8, .sh), (4, (.own .sh)), (6, (.own .sh)), (7, (.own .sh))], [], []⟩)]
def ir39 : IR := (.letE ⟨(.all 2), [(.var 0)]⟩
 (.letE ⟨(.all 6), [(.var 1)]⟩
 (.letE ⟨.mk, [(.fld (.var 2) 0), (.fld (.var 2) 1)]⟩
 (.call 95 [(.var 4)] 1
 (.call 88 [(.fld (.var 2) 0), (.nil (.int .u8))] 1
 (.label true
 (.letE ⟨.len, [(.fld (.var 3) 1)]⟩
 (.letE ⟨(.bin .lss 3), [(.var 8), (.var 12)]⟩
 (.ite (.var 13)
 (.label false
 (.letE ⟨(.bin .add 3), [(.var 8), (.int .i64 (1))]⟩
 (.jump 0 [(.var 14), (.var 15), (.var 9), (.var 10), (.var 11)]))
 (.label false
 (.ite (.var 14)
 (.letE ⟨(.lst (.int .u8)), []⟩
 (.letE ⟨(.idx 4), [(.fld (.var 3) 1), (.var 8)]⟩
 (.letE ⟨.a, [(.fld (.var 16) 0)]⟩
 (.letE ⟨(.app (.int .u8)), [(.var 15), (.var 17)]⟩
 (.letE ⟨.atom, [(.int .i64 (3))]⟩
 (.letE ⟨.atom, [(.var 18)]⟩
 (.letE ⟨.mk, [(.var 19), (.var 20), (.nil (.int .u8)), (.int .i64 (0))]⟩
 (.letE ⟨(.lst (.pair (.int .i64) (.pair (.sl (.int .u8)) (.pair (.sl (.int .u8)) (.pair (.int .i64) .unit))))), [(.var 21)]⟩
 (.letE ⟨(.app (.pair (.int .i64) (.pair (.sl (.int .u8)) (.pair (.sl (.int .u8)) (.pair (.int .i64) .unit))))), [(.var 7), (.var 22)]⟩
 (.jump 1 [(.var 23)]))))))))))
 (.jump 1 [(.var 7)]))
 (.letE ⟨(.idx 4), [(.fld (.var 3) 1), (.var 8)]⟩
 (.letE ⟨.a, [(.fld (.var 14) 0)]⟩
 (.call 96 [(.var 15), (.var 11)] 1
 (.ite (.var 16)
 (.letE ⟨(.idx 4), [(.fld (.var 3) 1), (.var 8)]⟩
 (.letE ⟨.a, [(.fld (.var 17) 0)]⟩
 (.call 97 [(.var 10), (.var 18)] 1
 (.letE ⟨(.bin .lss 3), [(.var 19), (.int .i64 (0))]⟩
 (.jump 2 [(.var 20)])))))
 (.jump 2 [(.bool false)])))))))
 (.label true
 (.letE ⟨.len, [(.var 17)]⟩
 (.letE ⟨(.bin .lss 3), [(.var 15), (.var 19)]⟩
 (.ite (.var 20)
 (.label false
 (.letE ⟨(.bin .add 3), [(.var 15), (.int .i64 (1))]⟩
 (.jump 1 [(.var 21), (.var 22), (.var 16), (.var 17), (.var 18)]))
 (.letE ⟨.mk, [(.fld (.var 3) 0), (.fld (.var 3) 1), (.fld (.var 3) 2), (.fld (.var 3) 3), (.fld (.var 3) 4), (.fld (.var 3) 5)]⟩
 (.letE ⟨(.idx 2), [(.var 17), (.var 15)]⟩
 (.letE ⟨(.idx 2), [(.var 17), (.var 15)]⟩
 (.letE ⟨.a, [(.fld (.var 23) 0)]⟩
 (.call 93 [(.var 21), (.var 24)] 1
 (.label false
 (.ite (.var 26)
 (.letE ⟨(.idx 2), [(.var 17), (.var 15)]⟩
 (.letE ⟨(.idx 2), [(.var 17), (.var 15)]⟩
 (.letE ⟨.a, [(.fld (.var 28) 0)]⟩
 (.letE ⟨(.idx 2), [(.var 17), (.var 15)]⟩
 (.letE ⟨(.idx 2), [(.var 17), (.var 15)]⟩
 (.letE ⟨.a, [(.fld (.var 31) 1)]⟩
 (.letE ⟨.atom, [(.int .i64 (1))]⟩
 (.letE ⟨.atom, [(.var 29)]⟩
 (.letE ⟨.atom, [(.var 32)]⟩
 (.letE ⟨.mk, [(.var 33), (.var 34), (.var 35), (.int .i64 (0))]⟩
 (.letE ⟨(.lst (.pair (.int .i64) (.pair (.sl (.int .u8)) (.pair (.sl (.int .u8)) (.pair (.int .i64) .unit))))), [(.var 36)]⟩
 (.letE ⟨(.app (.pair (.int .i64) (.pair (.sl (.int .u8)) (.pair (.sl (.int .u8)) (.pair (.int .i64) .unit))))), [(.var 14), (.var 37)]⟩
 (.jump 2 [(.var 38)])))))))))))))
 (.jump 2 [(.var 14)]))
 (.letE ⟨(.bin .lss 3), [(.var 25), (.int .i64 (0))]⟩
 (.ite (.var 26)
 (.jump 3 [(.bool true)])
 (.letE ⟨(.idx 4), [(.fld (.var 3) 1), (.var 25)]⟩
 (.letE ⟨.a, [(.fld (.var 27) 1)]⟩
 (.letE ⟨.text, [(.var 28)]⟩
 (.letE ⟨(.idx 2), [(.var 17), (.var 15)]⟩
 (.letE ⟨(.idx 2), [(.var 17), (.var 15)]⟩
 (.letE ⟨.a, [(.fld (.var 31) 1)]⟩
 (.letE ⟨.text, [(.var 32)]⟩
 (.letE ⟨(.bin .neq 9), [(.var 29), (.var 33)]⟩
 (.jump 3 [(.var 34)]))))))))))))))))))
 (.ret [(.var 14)]))))
 (.jump 1 [(.var 7), (.int .i64 (0)), (.var 9), (.var 10), (.var 11)])))))
 (.jump 0 [(.nil (.pair (.int .i64) (.pair (.sl (.int .u8)) (.pair (.sl (.int .u8)) (.pair (.int .i64) .unit))))), (.int .i64 (0)), (.nil (.pair (.int .i64) (.pair (.sl (.int .u8)) (.pair (.sl (.int .u8)) (.pair (.int .i64) .unit))))), (.var 5), (.var 6)])))))))
/- loop.example/g00365/spec.Synced -/
def sg8 : Sig := ⟨[.val, .val], [(.bool, .sh)], false⟩
def hi8 : Hints := []
def ir8 : IR := (.letE ⟨(.all 2), [(.var 0)]⟩
 (.letE ⟨(.all 6), [(.var 1)]⟩
 (.letE ⟨.mk, [(.fld (.var 2) 0), (.fld (.var 2) 1)]⟩
 (.call 37 [(.var 4)] 1
 (.ite (.var 5)
 (.letE ⟨.mk, [(.fld (.var 3) 0), (.fld (.var 3) 1), (.fld (.var 3) 2), (.fld (.var 3) 3), (.fld (.var 3) 4), (.fld (.var 3) 5)]⟩
 (.call 38 [(.var 6)] 1
 (.ite (.var 7)
 (.letE ⟨.mk, [(.fld (.var 2) 0), (.fld (.var 2) 1)]⟩
 (.letE ⟨.mk, [(.fld (.var 3) 0), (.fld (.var 3) 1), (.fld (.var 3) 2), (.fld (.var 3) 3), (.fld (.var 3) 4), (.fld (.var 3) 5)]⟩
 (.call 39 [(.var 8), (.var 9)] 1
 (.letE ⟨.len, [(.var 10)]⟩
 (.letE ⟨(.bin .eql 3), [(.var 11), (.int .i64 (0))]⟩
 (.ret [(.var 12)]))))))
 (.ret [(.bool false)]))))
 (.ret [(.bool false)]))))))
/- loop.example/g00365/laws.FnExactSynced -/
def sg3 : Sig := ⟨[.val, .val], [(.bool, .sh)], false⟩
def hi3 : Hints := []
def ir3 : IR := (.letE ⟨(.all 2), [(.var 0)]⟩
 (.letE ⟨(.all 6), [(.var 1)]⟩
 (.letE ⟨.mk, [(.fld (.var 2) 0), (.fld (.var 2) 1)]⟩
 (.call 6 [(.var 4), (.int .i64 (1048576))] 1
 (.letE ⟨(.bin .lss 3), [(.var 5), (.int .i64 (0))]⟩
 (.ite (.var 6)
 (.ret [(.bool true)])
 (.letE ⟨.mk, [(.fld (.var 3) 0), (.fld (.var 3) 1), (.fld (.var 3) 2), (.fld (.var 3) 3), (.fld (.var 3) 4), (.fld (.var 3) 5)]⟩
 (.call 7 [(.var 7), (.var 5)] 1
 (.letE ⟨(.bin .lss 3), [(.var 8), (.int .i64 (0))]⟩
 (.ite (.var 9)
 (.ret [(.bool true)])
 (.letE ⟨.mk, [(.fld (.var 2) 0), (.fld (.var 2) 1)]⟩
 (.call 9 [(.var 10)] 1
 (.letE ⟨.mk, [(.fld (.var 3) 0), (.fld (.var 3) 1), (.fld (.var 3) 2), (.fld (.var 3) 3), (.fld (.var 3) 4), (.fld (.var 3) 5)]⟩
 (.call 10 [(.var 12)] 1
 (.call 8 [(.var 11), (.var 13)] 1
 (.letE ⟨.mk, [(.fld (.var 2) 0), (.fld (.var 2) 1)]⟩
 (.call 9 [(.var 15)] 1
 (.letE ⟨(.all 2), [(.var 16)]⟩
 (.letE ⟨.mk, [(.fld (.var 3) 0), (.fld (.var 3) 1), (.fld (.var 3) 2), (.fld (.var 3) 3), (.fld (.var 3) 4), (.fld (.var 3) 5)]⟩
 (.call 10 [(.var 18)] 1
 (.letE ⟨(.all 6), [(.var 19)]⟩
 (.letE ⟨.mk, [(.fld (.var 17) 0), (.fld (.var 17) 1)]⟩
 (.letE ⟨.mk, [(.fld (.var 20) 0), (.fld (.var 20) 1), (.fld (.var 20) 2), (.fld (.var 20) 3), (.fld (.var 20) 4), (.fld (.var 20) 5)]⟩
 (.call 11 [(.var 21), (.var 22)] 1
 (.letE ⟨(.beq true), [(.var 23), (.var 14)]⟩
 (.ite (.var 24)
 (.ret [(.bool false)])
 (.letE ⟨.mk, [(.fld (.var 2) 0), (.fld (.var 2) 1)]⟩
 (.call 9 [(.var 25)] 1
 (.letE ⟨.mk, [(.fld (.var 17) 0), (.fld (.var 17) 1)]⟩
 (.call 12 [(.var 27), (.var 26)] 1
 (.letE ⟨(.un .not), [(.var 28)]⟩
 (.ite (.var 29)
 (.ret [(.bool false)])
 (.letE ⟨.mk, [(.fld (.var 3) 0), (.fld (.var 3) 1), (.fld (.var 3) 2), (.fld (.var 3) 3), (.fld (.var 3) 4), (.fld (.var 3) 5)]⟩
 (.call 10 [(.var 30)] 1
 (.letE ⟨.mk, [(.fld (.var 20) 0), (.fld (.var 20) 1), (.fld (.var 20) 2), (.fld (.var 20) 3), (.fld (.var 20) 4), (.fld (.var 20) 5)]⟩
 (.call 13 [(.var 32), (.var 31)] 1
 (.letE ⟨(.un .not), [(.var 33)]⟩
 (.ite (.var 34)
 (.ret [(.bool false)])
 (.ret [(.bool true)])))))))))))))))))))))))))))))))))))))))
def Sn : Nat → Option Sig := fun n => match n with
  | 111 => some sgCmp
  | 149 => some sgGrow
  | _ => none
def Bn : Fns := fun n ds => match n with
  | 111 => cmpB ds
  | 149 => growB ds
  | _ => none
set_option maxHeartbeats 8000000 in
theorem walk111 (A0 A1 : Option Addr) (n0 n1 c0 c1 : Nat) (r : Int) (w : World) (h : (Extern.BytealgCompare.compare #[.slice A0 n0 c0, .slice A1 n1 c1]).run Tryz.prog w = .ok (.int .i64 r) w) :
    Calls Tryz.prog 111 #[.slice A0 n0 c0, .slice A1 n1 c1] w fun e w' => e = .returned (.int .i64 r) ∧ Ext w w' [] := by
  go_enter Tryz.func111, Tryz.ntmps111
  go_wp2
  rw [run_callFunc_extern Tryz.func143 (by kernel_rfl) (by kernel_rfl) (by kernel_rfl) (e := Extern.BytealgCompare.compare) (by kernel_rfl), h]
  simp only [Result.andThen]
  rw [Oper.upon_value]
  go_wp2
  go_ret
  exact ⟨rfl, Ext.refl _ _⟩
set_option maxHeartbeats 8000000 in
theorem walk149a (w : World) : Calls Tryz.prog 149 #[.slice none 0 0, .int .i64 0] w fun e w' => e = .returned (.slice none 0 0) ∧ Ext w w' [] := by
  have w0 : wrap64 ((0 : Int) - 0) = 0 := by unfold wrap64; omega
  go_enter Tryz.func149, Tryz.ntmps149
  go_wp2
  go_ret
  exact ⟨rfl, Ext.refl _ _⟩
theorem info5 : (Tryz.prog.info? 5).map (fun i => (i.zero, i.size, i.bytes)) = some (some (.int .u8 0), 1, 1) := by kernel_rfl
set_option maxHeartbeats 8000000 in
theorem walk149b (m : Nat) (w : World) (h0 : 0 < m) (h1 : m < maxRow) : Calls Tryz.prog 149 #[.slice none 0 0, .int .i64 m] w fun e w' => ∃ c ty, e = .returned (.slice (some ⟨w.heap.size, 0, none⟩) 0 (Array.size c)) ∧ w'.heap[w.heap.size]? = some (.cells c ty) ∧ Ext w w' [] := by
  have h1' : m < 4294967296 := h1
  have w0 : wrap64 ((0 : Int) - 0) = 0 := by unfold wrap64; omega
  have w1 : wrap64 ((m : Int) - 0) = m := by unfold wrap64; omega
  have w2 : wrap64 (m : Int) = m := by unfold wrap64; omega
  have d0 : decide ((m : Int) < 0) = false := decide_eq_false (by omega)
  have d1 : decide ((m : Int) > 0) = true := decide_eq_true (by omega)
  have d2 : decide (0 < (m : Int)) = true := decide_eq_true (by omega)
  obtain ⟨i5, hi5, hz⟩ := Option.map_eq_some_iff.1 info5
  simp only [Prod.mk.injEq] at hz
  obtain ⟨z1, z2, z3⟩ := hz
  have hge := grownCap_ge w m 0 5
  have hcut0 := cut_to (P := Tryz.prog) 22 5 .i64 Tryz.underlying22 hi5 none 0 0 0 (by omega) (by omega) (by omega)
  have hcut1 := cut_to (P := Tryz.prog) 22 5 .i64 Tryz.underlying22 hi5 (some ⟨w.heap.size, 0, none⟩) m (grownCap w m 0 5) 0 (by omega) (by omega) hge
  go_enter Tryz.func149, Tryz.ntmps149
  go_wp2_with (at_builtin; refine wp_append_zeros rfl (.tmp 20) (.tmp 21) 22 3 5 rfl Tryz.underlying22 Tryz.underlying3 hi5 z1 (by omega) (by rw [z2]; rfl) (by omega) .i64 m h0 h1 rfl rfl ?_)
  go_ret
  refine ⟨_, 5, by simp [size_zeroCells, Value.cells]; omega, new_block _ _, Ext.of_below (((Below.refl _ _).drew).alloc (Nat.le_refl _) _)⟩
theorem nat : ∀ f s, Sn f = some s → Con Tryz.prog Bn f s := by
  intro f s h
  unfold Sn at h
  split at h
  · simp only [Option.some.injEq] at h
    subst h
    exact con_cmp (fun _ => rfl) walk111
  · simp only [Option.some.injEq] at h
    subst h
    exact con_grow (fun _ => rfl) walk149a walk149b
  · cases h
def T : Nat → Option (Sig × IR) := fun n => match n with
  | 77 => some (sg77, ir77)
  | 107 => some (sg107, ir107)
  | 51 => some (sg51, ir51)
  | 106 => some (sg106, ir106)
  | 50 => some (sg50, ir50)
  | 46 => some (sg46, ir46)
  | 60 => some (sg60, ir60)
  | 59 => some (sg59, ir59)
  | 148 => some (sg148, ir148)
  | 123 => some (sg123, ir123)
  | 122 => some (sg122, ir122)
  | 61 => some (sg61, ir61)
  | 146 => some (sg146, ir146)
  | 114 => some (sg114, ir114)
  | 144 => some (sg144, ir144)
  | 120 => some (sg120, ir120)
  | 56 => some (sg56, ir56)
  | 110 => some (sg110, ir110)
  | 166 => some (sg166, ir166)
  | 142 => some (sg142, ir142)
  | 113 => some (sg113, ir113)
  | 109 => some (sg109, ir109)
  | 108 => some (sg108, ir108)
  | 97 => some (sg97, ir97)
  | 96 => some (sg96, ir96)
  | 137 => some (sg137, ir137)
  | 94 => some (sg94, ir94)
  | 93 => some (sg93, ir93)
  | 92 => some (sg92, ir92)
  | 91 => some (sg91, ir91)
  | 90 => some (sg90, ir90)
  | 88 => some (sg88, ir88)
  | 87 => some (sg87, ir87)
  | 86 => some (sg86, ir86)
  | 140 => some (sg140, ir140)
  | 102 => some (sg102, ir102)
  | 45 => some (sg45, ir45)
  | 101 => some (sg101, ir101)
  | 44 => some (sg44, ir44)
  | 40 => some (sg40, ir40)
  | 36 => some (sg36, ir36)
  | 35 => some (sg35, ir35)
  | 31 => some (sg31, ir31)
  | 105 => some (sg105, ir105)
  | 49 => some (sg49, ir49)
  | 104 => some (sg104, ir104)
  | 48 => some (sg48, ir48)
  | 13 => some (sg13, ir13)
  | 165 => some (sg165, ir165)
  | 141 => some (sg141, ir141)
  | 103 => some (sg103, ir103)
  | 47 => some (sg47, ir47)
  | 12 => some (sg12, ir12)
  | 58 => some (sg58, ir58)
  | 119 => some (sg119, ir119)
  | 55 => some (sg55, ir55)
  | 117 => some (sg117, ir117)
  | 147 => some (sg147, ir147)
  | 116 => some (sg116, ir116)
  | 145 => some (sg145, ir145)
  | 115 => some (sg115, ir115)
  | 53 => some (sg53, ir53)
  | 112 => some (sg112, ir112)
  | 52 => some (sg52, ir52)
  | 38 => some (sg38, ir38)
  | 89 => some (sg89, ir89)
  | 37 => some (sg37, ir37)
  | 100 => some (sg100, ir100)
  | 43 => some (sg43, ir43)
  | 99 => some (sg99, ir99)
  | 42 => some (sg42, ir42)
  | 10 => some (sg10, ir10)
  | 164 => some (sg164, ir164)
  | 139 => some (sg139, ir139)
  | 98 => some (sg98, ir98)
  | 41 => some (sg41, ir41)
  | 9 => some (sg9, ir9)
  | 85 => some (sg85, ir85)
  | 34 => some (sg34, ir34)
  | 84 => some (sg84, ir84)
  | 33 => some (sg33, ir33)
  | 7 => some (sg7, ir7)
  | 163 => some (sg163, ir163)
  | 136 => some (sg136, ir136)
  | 83 => some (sg83, ir83)
  | 32 => some (sg32, ir32)
  | 6 => some (sg6, ir6)
  | 121 => some (sg121, ir121)
  | 57 => some (sg57, ir57)
  | 118 => some (sg118, ir118)
  | 54 => some (sg54, ir54)
  | 15 => some (sg15, ir15)
  | 11 => some (sg11, ir11)
  | 138 => some (sg138, ir138)
  | 95 => some (sg95, ir95)
  | 39 => some (sg39, ir39)
  | 8 => some (sg8, ir8)
  | 3 => some (sg3, ir3)
  | _ => none
noncomputable abbrev Lv (N k : Nat) : Fns := level Sn Bn T N k
def Cs : Nat → Option Sig := shapes Sn T
theorem t77 : fnIR Tryz.prog Cs hi77 Tryz.f77 sg77 = some ir77 := by kernel_rfl
theorem t107 : fnIR Tryz.prog Cs hi107 Tryz.f107 sg107 = some ir107 := by kernel_rfl
theorem t51 : fnIR Tryz.prog Cs hi51 Tryz.f51 sg51 = some ir51 := by kernel_rfl
theorem t106 : fnIR Tryz.prog Cs hi106 Tryz.f106 sg106 = some ir106 := by kernel_rfl
theorem t50 : fnIR Tryz.prog Cs hi50 Tryz.f50 sg50 = some ir50 := by kernel_rfl
theorem t46 : fnIR Tryz.prog Cs hi46 Tryz.f46 sg46 = some ir46 := by kernel_rfl
theorem t60 : fnIR Tryz.prog Cs hi60 Tryz.f60 sg60 = some ir60 := by kernel_rfl
theorem t59 : fnIR Tryz.prog Cs hi59 Tryz.f59 sg59 = some ir59 := by kernel_rfl
theorem t148 : fnIR Tryz.prog Cs hi148 Tryz.f148 sg148 = some ir148 := by kernel_rfl
theorem t123 : fnIR Tryz.prog Cs hi123 Tryz.f123 sg123 = some ir123 := by kernel_rfl
theorem t122 : fnIR Tryz.prog Cs hi122 Tryz.f122 sg122 = some ir122 := by kernel_rfl
theorem t61 : fnIR Tryz.prog Cs hi61 Tryz.f61 sg61 = some ir61 := by kernel_rfl
theorem t146 : fnIR Tryz.prog Cs hi146 Tryz.f146 sg146 = some ir146 := by kernel_rfl
theorem t114 : fnIR Tryz.prog Cs hi114 Tryz.f114 sg114 = some ir114 := by kernel_rfl
theorem t144 : fnIR Tryz.prog Cs hi144 Tryz.f144 sg144 = some ir144 := by kernel_rfl
theorem t120 : fnIR Tryz.prog Cs hi120 Tryz.f120 sg120 = some ir120 := by kernel_rfl
theorem t56 : fnIR Tryz.prog Cs hi56 Tryz.f56 sg56 = some ir56 := by kernel_rfl
theorem t110 : fnIR Tryz.prog Cs hi110 Tryz.f110 sg110 = some ir110 := by kernel_rfl
theorem t166 : fnIR Tryz.prog Cs hi166 Tryz.f166 sg166 = some ir166 := by kernel_rfl
theorem t142 : fnIR Tryz.prog Cs hi142 Tryz.f142 sg142 = some ir142 := by kernel_rfl
theorem t113 : fnIR Tryz.prog Cs hi113 Tryz.f113 sg113 = some ir113 := by kernel_rfl
theorem t109 : fnIR Tryz.prog Cs hi109 Tryz.f109 sg109 = some ir109 := by kernel_rfl
theorem t108 : fnIR Tryz.prog Cs hi108 Tryz.f108 sg108 = some ir108 := by kernel_rfl
theorem t97 : fnIR Tryz.prog Cs hi97 Tryz.f97 sg97 = some ir97 := by kernel_rfl
theorem t96 : fnIR Tryz.prog Cs hi96 Tryz.f96 sg96 = some ir96 := by kernel_rfl
theorem t137 : fnIR Tryz.prog Cs hi137 Tryz.f137 sg137 = some ir137 := by kernel_rfl
theorem t94 : fnIR Tryz.prog Cs hi94 Tryz.f94 sg94 = some ir94 := by kernel_rfl
theorem t93 : fnIR Tryz.prog Cs hi93 Tryz.f93 sg93 = some ir93 := by kernel_rfl
theorem t92 : fnIR Tryz.prog Cs hi92 Tryz.f92 sg92 = some ir92 := by kernel_rfl
theorem t91 : fnIR Tryz.prog Cs hi91 Tryz.f91 sg91 = some ir91 := by kernel_rfl
theorem t90 : fnIR Tryz.prog Cs hi90 Tryz.f90 sg90 = some ir90 := by kernel_rfl
theorem t88 : fnIR Tryz.prog Cs hi88 Tryz.f88 sg88 = some ir88 := by kernel_rfl
theorem t87 : fnIR Tryz.prog Cs hi87 Tryz.f87 sg87 = some ir87 := by kernel_rfl
theorem t86 : fnIR Tryz.prog Cs hi86 Tryz.f86 sg86 = some ir86 := by kernel_rfl
theorem t140 : fnIR Tryz.prog Cs hi140 Tryz.f140 sg140 = some ir140 := by kernel_rfl
theorem t102 : fnIR Tryz.prog Cs hi102 Tryz.f102 sg102 = some ir102 := by kernel_rfl
theorem t45 : fnIR Tryz.prog Cs hi45 Tryz.f45 sg45 = some ir45 := by kernel_rfl
theorem t101 : fnIR Tryz.prog Cs hi101 Tryz.f101 sg101 = some ir101 := by kernel_rfl
theorem t44 : fnIR Tryz.prog Cs hi44 Tryz.f44 sg44 = some ir44 := by kernel_rfl
theorem t40 : fnIR Tryz.prog Cs hi40 Tryz.f40 sg40 = some ir40 := by kernel_rfl
theorem t36 : fnIR Tryz.prog Cs hi36 Tryz.f36 sg36 = some ir36 := by kernel_rfl
theorem t35 : fnIR Tryz.prog Cs hi35 Tryz.f35 sg35 = some ir35 := by kernel_rfl
theorem t31 : fnIR Tryz.prog Cs hi31 Tryz.f31 sg31 = some ir31 := by kernel_rfl
theorem t105 : fnIR Tryz.prog Cs hi105 Tryz.f105 sg105 = some ir105 := by kernel_rfl
theorem t49 : fnIR Tryz.prog Cs hi49 Tryz.f49 sg49 = some ir49 := by kernel_rfl
theorem t104 : fnIR Tryz.prog Cs hi104 Tryz.f104 sg104 = some ir104 := by kernel_rfl
theorem t48 : fnIR Tryz.prog Cs hi48 Tryz.f48 sg48 = some ir48 := by kernel_rfl
theorem t13 : fnIR Tryz.prog Cs hi13 Tryz.f13 sg13 = some ir13 := by kernel_rfl
theorem t165 : fnIR Tryz.prog Cs hi165 Tryz.f165 sg165 = some ir165 := by kernel_rfl
theorem t141 : fnIR Tryz.prog Cs hi141 Tryz.f141 sg141 = some ir141 := by kernel_rfl
theorem t103 : fnIR Tryz.prog Cs hi103 Tryz.f103 sg103 = some ir103 := by kernel_rfl
theorem t47 : fnIR Tryz.prog Cs hi47 Tryz.f47 sg47 = some ir47 := by kernel_rfl
theorem t12 : fnIR Tryz.prog Cs hi12 Tryz.f12 sg12 = some ir12 := by kernel_rfl
theorem t58 : fnIR Tryz.prog Cs hi58 Tryz.f58 sg58 = some ir58 := by kernel_rfl
theorem t119 : fnIR Tryz.prog Cs hi119 Tryz.f119 sg119 = some ir119 := by kernel_rfl
theorem t55 : fnIR Tryz.prog Cs hi55 Tryz.f55 sg55 = some ir55 := by kernel_rfl
theorem t117 : fnIR Tryz.prog Cs hi117 Tryz.f117 sg117 = some ir117 := by kernel_rfl
theorem t147 : fnIR Tryz.prog Cs hi147 Tryz.f147 sg147 = some ir147 := by kernel_rfl
theorem t116 : fnIR Tryz.prog Cs hi116 Tryz.f116 sg116 = some ir116 := by kernel_rfl
theorem t145 : fnIR Tryz.prog Cs hi145 Tryz.f145 sg145 = some ir145 := by kernel_rfl
theorem t115 : fnIR Tryz.prog Cs hi115 Tryz.f115 sg115 = some ir115 := by kernel_rfl
theorem t53 : fnIR Tryz.prog Cs hi53 Tryz.f53 sg53 = some ir53 := by kernel_rfl
theorem t112 : fnIR Tryz.prog Cs hi112 Tryz.f112 sg112 = some ir112 := by kernel_rfl
theorem t52 : fnIR Tryz.prog Cs hi52 Tryz.f52 sg52 = some ir52 := by kernel_rfl
theorem t38 : fnIR Tryz.prog Cs hi38 Tryz.f38 sg38 = some ir38 := by kernel_rfl
theorem t89 : fnIR Tryz.prog Cs hi89 Tryz.f89 sg89 = some ir89 := by kernel_rfl
theorem t37 : fnIR Tryz.prog Cs hi37 Tryz.f37 sg37 = some ir37 := by kernel_rfl
theorem t100 : fnIR Tryz.prog Cs hi100 Tryz.f100 sg100 = some ir100 := by kernel_rfl
theorem t43 : fnIR Tryz.prog Cs hi43 Tryz.f43 sg43 = some ir43 := by kernel_rfl
theorem t99 : fnIR Tryz.prog Cs hi99 Tryz.f99 sg99 = some ir99 := by kernel_rfl
theorem t42 : fnIR Tryz.prog Cs hi42 Tryz.f42 sg42 = some ir42 := by kernel_rfl
theorem t10 : fnIR Tryz.prog Cs hi10 Tryz.f10 sg10 = some ir10 := by kernel_rfl
theorem t164 : fnIR Tryz.prog Cs hi164 Tryz.f164 sg164 = some ir164 := by kernel_rfl
theorem t139 : fnIR Tryz.prog Cs hi139 Tryz.f139 sg139 = some ir139 := by kernel_rfl
theorem t98 : fnIR Tryz.prog Cs hi98 Tryz.f98 sg98 = some ir98 := by kernel_rfl
theorem t41 : fnIR Tryz.prog Cs hi41 Tryz.f41 sg41 = some ir41 := by kernel_rfl
theorem t9 : fnIR Tryz.prog Cs hi9 Tryz.f9 sg9 = some ir9 := by kernel_rfl
theorem t85 : fnIR Tryz.prog Cs hi85 Tryz.f85 sg85 = some ir85 := by kernel_rfl
theorem t34 : fnIR Tryz.prog Cs hi34 Tryz.f34 sg34 = some ir34 := by kernel_rfl
theorem t84 : fnIR Tryz.prog Cs hi84 Tryz.f84 sg84 = some ir84 := by kernel_rfl
theorem t33 : fnIR Tryz.prog Cs hi33 Tryz.f33 sg33 = some ir33 := by kernel_rfl
theorem t7 : fnIR Tryz.prog Cs hi7 Tryz.f7 sg7 = some ir7 := by kernel_rfl
theorem t163 : fnIR Tryz.prog Cs hi163 Tryz.f163 sg163 = some ir163 := by kernel_rfl
theorem t136 : fnIR Tryz.prog Cs hi136 Tryz.f136 sg136 = some ir136 := by kernel_rfl
theorem t83 : fnIR Tryz.prog Cs hi83 Tryz.f83 sg83 = some ir83 := by kernel_rfl
theorem t32 : fnIR Tryz.prog Cs hi32 Tryz.f32 sg32 = some ir32 := by kernel_rfl
theorem t6 : fnIR Tryz.prog Cs hi6 Tryz.f6 sg6 = some ir6 := by kernel_rfl
theorem t121 : fnIR Tryz.prog Cs hi121 Tryz.f121 sg121 = some ir121 := by kernel_rfl
theorem t57 : fnIR Tryz.prog Cs hi57 Tryz.f57 sg57 = some ir57 := by kernel_rfl
theorem t118 : fnIR Tryz.prog Cs hi118 Tryz.f118 sg118 = some ir118 := by kernel_rfl
theorem t54 : fnIR Tryz.prog Cs hi54 Tryz.f54 sg54 = some ir54 := by kernel_rfl
theorem t15 : fnIR Tryz.prog Cs hi15 Tryz.f15 sg15 = some ir15 := by kernel_rfl
theorem t11 : fnIR Tryz.prog Cs hi11 Tryz.f11 sg11 = some ir11 := by kernel_rfl
theorem t138 : fnIR Tryz.prog Cs hi138 Tryz.f138 sg138 = some ir138 := by kernel_rfl
theorem t95 : fnIR Tryz.prog Cs hi95 Tryz.f95 sg95 = some ir95 := by kernel_rfl
theorem t39 : fnIR Tryz.prog Cs hi39 Tryz.f39 sg39 = some ir39 := by kernel_rfl
theorem t8 : fnIR Tryz.prog Cs hi8 Tryz.f8 sg8 = some ir8 := by kernel_rfl
theorem t3 : fnIR Tryz.prog Cs hi3 Tryz.f3 sg3 = some ir3 := by kernel_rfl
theorem tab : ∀ f s ir, T f = some (s, ir) → ∃ fn H, Tryz.prog.funcs[f]? = some fn ∧ fnIR Tryz.prog (shapes Sn T) H fn s = some ir := by
  intro f s ir h
  unfold T at h
  split at h
  · simp only [Option.some.injEq, Prod.mk.injEq] at h
    obtain ⟨rfl, rfl⟩ := h
    exact ⟨Tryz.f77, hi77, Tryz.func77, t77⟩
  · simp only [Option.some.injEq, Prod.mk.injEq] at h
    obtain ⟨rfl, rfl⟩ := h
    exact ⟨Tryz.f107, hi107, Tryz.func107, t107⟩
  · simp only [Option.some.injEq, Prod.mk.injEq] at h
    obtain ⟨rfl, rfl⟩ := h
    exact ⟨Tryz.f51, hi51, Tryz.func51, t51⟩
  · simp only [Option.some.injEq, Prod.mk.injEq] at h
    obtain ⟨rfl, rfl⟩ := h
    exact ⟨Tryz.f106, hi106, Tryz.func106, t106⟩
  · simp only [Option.some.injEq, Prod.mk.injEq] at h
    obtain ⟨rfl, rfl⟩ := h
    exact ⟨Tryz.f50, hi50, Tryz.func50, t50⟩
  · simp only [Option.some.injEq, Prod.mk.injEq] at h
    obtain ⟨rfl, rfl⟩ := h
    exact ⟨Tryz.f46, hi46, Tryz.func46, t46⟩
  · simp only [Option.some.injEq, Prod.mk.injEq] at h
    obtain ⟨rfl, rfl⟩ := h
    exact ⟨Tryz.f60, hi60, Tryz.func60, t60⟩
  · simp only [Option.some.injEq, Prod.mk.injEq] at h
    obtain ⟨rfl, rfl⟩ := h
    exact ⟨Tryz.f59, hi59, Tryz.func59, t59⟩
  · simp only [Option.some.injEq, Prod.mk.injEq] at h
    obtain ⟨rfl, rfl⟩ := h
    exact ⟨Tryz.f148, hi148, Tryz.func148, t148⟩
  · simp only [Option.some.injEq, Prod.mk.injEq] at h
    obtain ⟨rfl, rfl⟩ := h
    exact ⟨Tryz.f123, hi123, Tryz.func123, t123⟩
  · simp only [Option.some.injEq, Prod.mk.injEq] at h
    obtain ⟨rfl, rfl⟩ := h
    exact ⟨Tryz.f122, hi122, Tryz.func122, t122⟩
  · simp only [Option.some.injEq, Prod.mk.injEq] at h
    obtain ⟨rfl, rfl⟩ := h
    exact ⟨Tryz.f61, hi61, Tryz.func61, t61⟩
  · simp only [Option.some.injEq, Prod.mk.injEq] at h
    obtain ⟨rfl, rfl⟩ := h
    exact ⟨Tryz.f146, hi146, Tryz.func146, t146⟩
  · simp only [Option.some.injEq, Prod.mk.injEq] at h
    obtain ⟨rfl, rfl⟩ := h
    exact ⟨Tryz.f114, hi114, Tryz.func114, t114⟩
  · simp only [Option.some.injEq, Prod.mk.injEq] at h
    obtain ⟨rfl, rfl⟩ := h
    exact ⟨Tryz.f144, hi144, Tryz.func144, t144⟩
  · simp only [Option.some.injEq, Prod.mk.injEq] at h
    obtain ⟨rfl, rfl⟩ := h
    exact ⟨Tryz.f120, hi120, Tryz.func120, t120⟩
  · simp only [Option.some.injEq, Prod.mk.injEq] at h
    obtain ⟨rfl, rfl⟩ := h
    exact ⟨Tryz.f56, hi56, Tryz.func56, t56⟩
  · simp only [Option.some.injEq, Prod.mk.injEq] at h
    obtain ⟨rfl, rfl⟩ := h
    exact ⟨Tryz.f110, hi110, Tryz.func110, t110⟩
  · simp only [Option.some.injEq, Prod.mk.injEq] at h
    obtain ⟨rfl, rfl⟩ := h
    exact ⟨Tryz.f166, hi166, Tryz.func166, t166⟩
  · simp only [Option.some.injEq, Prod.mk.injEq] at h
    obtain ⟨rfl, rfl⟩ := h
    exact ⟨Tryz.f142, hi142, Tryz.func142, t142⟩
  · simp only [Option.some.injEq, Prod.mk.injEq] at h
    obtain ⟨rfl, rfl⟩ := h
    exact ⟨Tryz.f113, hi113, Tryz.func113, t113⟩
  · simp only [Option.some.injEq, Prod.mk.injEq] at h
    obtain ⟨rfl, rfl⟩ := h
    exact ⟨Tryz.f109, hi109, Tryz.func109, t109⟩
  · simp only [Option.some.injEq, Prod.mk.injEq] at h
    obtain ⟨rfl, rfl⟩ := h
    exact ⟨Tryz.f108, hi108, Tryz.func108, t108⟩
  · simp only [Option.some.injEq, Prod.mk.injEq] at h
    obtain ⟨rfl, rfl⟩ := h
    exact ⟨Tryz.f97, hi97, Tryz.func97, t97⟩
  · simp only [Option.some.injEq, Prod.mk.injEq] at h
    obtain ⟨rfl, rfl⟩ := h
    exact ⟨Tryz.f96, hi96, Tryz.func96, t96⟩
  · simp only [Option.some.injEq, Prod.mk.injEq] at h
    obtain ⟨rfl, rfl⟩ := h
    exact ⟨Tryz.f137, hi137, Tryz.func137, t137⟩
  · simp only [Option.some.injEq, Prod.mk.injEq] at h
    obtain ⟨rfl, rfl⟩ := h
    exact ⟨Tryz.f94, hi94, Tryz.func94, t94⟩
  · simp only [Option.some.injEq, Prod.mk.injEq] at h
    obtain ⟨rfl, rfl⟩ := h
    exact ⟨Tryz.f93, hi93, Tryz.func93, t93⟩
  · simp only [Option.some.injEq, Prod.mk.injEq] at h
    obtain ⟨rfl, rfl⟩ := h
    exact ⟨Tryz.f92, hi92, Tryz.func92, t92⟩
  · simp only [Option.some.injEq, Prod.mk.injEq] at h
    obtain ⟨rfl, rfl⟩ := h
    exact ⟨Tryz.f91, hi91, Tryz.func91, t91⟩
  · simp only [Option.some.injEq, Prod.mk.injEq] at h
    obtain ⟨rfl, rfl⟩ := h
    exact ⟨Tryz.f90, hi90, Tryz.func90, t90⟩
  · simp only [Option.some.injEq, Prod.mk.injEq] at h
    obtain ⟨rfl, rfl⟩ := h
    exact ⟨Tryz.f88, hi88, Tryz.func88, t88⟩
  · simp only [Option.some.injEq, Prod.mk.injEq] at h
    obtain ⟨rfl, rfl⟩ := h
    exact ⟨Tryz.f87, hi87, Tryz.func87, t87⟩
  · simp only [Option.some.injEq, Prod.mk.injEq] at h
    obtain ⟨rfl, rfl⟩ := h
    exact ⟨Tryz.f86, hi86, Tryz.func86, t86⟩
  · simp only [Option.some.injEq, Prod.mk.injEq] at h
    obtain ⟨rfl, rfl⟩ := h
    exact ⟨Tryz.f140, hi140, Tryz.func140, t140⟩
  · simp only [Option.some.injEq, Prod.mk.injEq] at h
    obtain ⟨rfl, rfl⟩ := h
    exact ⟨Tryz.f102, hi102, Tryz.func102, t102⟩
  · simp only [Option.some.injEq, Prod.mk.injEq] at h
    obtain ⟨rfl, rfl⟩ := h
    exact ⟨Tryz.f45, hi45, Tryz.func45, t45⟩
  · simp only [Option.some.injEq, Prod.mk.injEq] at h
    obtain ⟨rfl, rfl⟩ := h
    exact ⟨Tryz.f101, hi101, Tryz.func101, t101⟩
  · simp only [Option.some.injEq, Prod.mk.injEq] at h
    obtain ⟨rfl, rfl⟩ := h
    exact ⟨Tryz.f44, hi44, Tryz.func44, t44⟩
  · simp only [Option.some.injEq, Prod.mk.injEq] at h
    obtain ⟨rfl, rfl⟩ := h
    exact ⟨Tryz.f40, hi40, Tryz.func40, t40⟩
  · simp only [Option.some.injEq, Prod.mk.injEq] at h
    obtain ⟨rfl, rfl⟩ := h
    exact ⟨Tryz.f36, hi36, Tryz.func36, t36⟩
  · simp only [Option.some.injEq, Prod.mk.injEq] at h
    obtain ⟨rfl, rfl⟩ := h
    exact ⟨Tryz.f35, hi35, Tryz.func35, t35⟩
  · simp only [Option.some.injEq, Prod.mk.injEq] at h
    obtain ⟨rfl, rfl⟩ := h
    exact ⟨Tryz.f31, hi31, Tryz.func31, t31⟩
  · simp only [Option.some.injEq, Prod.mk.injEq] at h
    obtain ⟨rfl, rfl⟩ := h
    exact ⟨Tryz.f105, hi105, Tryz.func105, t105⟩
  · simp only [Option.some.injEq, Prod.mk.injEq] at h
    obtain ⟨rfl, rfl⟩ := h
    exact ⟨Tryz.f49, hi49, Tryz.func49, t49⟩
  · simp only [Option.some.injEq, Prod.mk.injEq] at h
    obtain ⟨rfl, rfl⟩ := h
    exact ⟨Tryz.f104, hi104, Tryz.func104, t104⟩
  · simp only [Option.some.injEq, Prod.mk.injEq] at h
    obtain ⟨rfl, rfl⟩ := h
    exact ⟨Tryz.f48, hi48, Tryz.func48, t48⟩
  · simp only [Option.some.injEq, Prod.mk.injEq] at h
    obtain ⟨rfl, rfl⟩ := h
    exact ⟨Tryz.f13, hi13, Tryz.func13, t13⟩
  · simp only [Option.some.injEq, Prod.mk.injEq] at h
    obtain ⟨rfl, rfl⟩ := h
    exact ⟨Tryz.f165, hi165, Tryz.func165, t165⟩
  · simp only [Option.some.injEq, Prod.mk.injEq] at h
    obtain ⟨rfl, rfl⟩ := h
    exact ⟨Tryz.f141, hi141, Tryz.func141, t141⟩
  · simp only [Option.some.injEq, Prod.mk.injEq] at h
    obtain ⟨rfl, rfl⟩ := h
    exact ⟨Tryz.f103, hi103, Tryz.func103, t103⟩
  · simp only [Option.some.injEq, Prod.mk.injEq] at h
    obtain ⟨rfl, rfl⟩ := h
    exact ⟨Tryz.f47, hi47, Tryz.func47, t47⟩
  · simp only [Option.some.injEq, Prod.mk.injEq] at h
    obtain ⟨rfl, rfl⟩ := h
    exact ⟨Tryz.f12, hi12, Tryz.func12, t12⟩
  · simp only [Option.some.injEq, Prod.mk.injEq] at h
    obtain ⟨rfl, rfl⟩ := h
    exact ⟨Tryz.f58, hi58, Tryz.func58, t58⟩
  · simp only [Option.some.injEq, Prod.mk.injEq] at h
    obtain ⟨rfl, rfl⟩ := h
    exact ⟨Tryz.f119, hi119, Tryz.func119, t119⟩
  · simp only [Option.some.injEq, Prod.mk.injEq] at h
    obtain ⟨rfl, rfl⟩ := h
    exact ⟨Tryz.f55, hi55, Tryz.func55, t55⟩
  · simp only [Option.some.injEq, Prod.mk.injEq] at h
    obtain ⟨rfl, rfl⟩ := h
    exact ⟨Tryz.f117, hi117, Tryz.func117, t117⟩
  · simp only [Option.some.injEq, Prod.mk.injEq] at h
    obtain ⟨rfl, rfl⟩ := h
    exact ⟨Tryz.f147, hi147, Tryz.func147, t147⟩
  · simp only [Option.some.injEq, Prod.mk.injEq] at h
    obtain ⟨rfl, rfl⟩ := h
    exact ⟨Tryz.f116, hi116, Tryz.func116, t116⟩
  · simp only [Option.some.injEq, Prod.mk.injEq] at h
    obtain ⟨rfl, rfl⟩ := h
    exact ⟨Tryz.f145, hi145, Tryz.func145, t145⟩
  · simp only [Option.some.injEq, Prod.mk.injEq] at h
    obtain ⟨rfl, rfl⟩ := h
    exact ⟨Tryz.f115, hi115, Tryz.func115, t115⟩
  · simp only [Option.some.injEq, Prod.mk.injEq] at h
    obtain ⟨rfl, rfl⟩ := h
    exact ⟨Tryz.f53, hi53, Tryz.func53, t53⟩
  · simp only [Option.some.injEq, Prod.mk.injEq] at h
    obtain ⟨rfl, rfl⟩ := h
    exact ⟨Tryz.f112, hi112, Tryz.func112, t112⟩
  · simp only [Option.some.injEq, Prod.mk.injEq] at h
    obtain ⟨rfl, rfl⟩ := h
    exact ⟨Tryz.f52, hi52, Tryz.func52, t52⟩
  · simp only [Option.some.injEq, Prod.mk.injEq] at h
    obtain ⟨rfl, rfl⟩ := h
    exact ⟨Tryz.f38, hi38, Tryz.func38, t38⟩
  · simp only [Option.some.injEq, Prod.mk.injEq] at h
    obtain ⟨rfl, rfl⟩ := h
    exact ⟨Tryz.f89, hi89, Tryz.func89, t89⟩
  · simp only [Option.some.injEq, Prod.mk.injEq] at h
    obtain ⟨rfl, rfl⟩ := h
    exact ⟨Tryz.f37, hi37, Tryz.func37, t37⟩
  · simp only [Option.some.injEq, Prod.mk.injEq] at h
    obtain ⟨rfl, rfl⟩ := h
    exact ⟨Tryz.f100, hi100, Tryz.func100, t100⟩
  · simp only [Option.some.injEq, Prod.mk.injEq] at h
    obtain ⟨rfl, rfl⟩ := h
    exact ⟨Tryz.f43, hi43, Tryz.func43, t43⟩
  · simp only [Option.some.injEq, Prod.mk.injEq] at h
    obtain ⟨rfl, rfl⟩ := h
    exact ⟨Tryz.f99, hi99, Tryz.func99, t99⟩
  · simp only [Option.some.injEq, Prod.mk.injEq] at h
    obtain ⟨rfl, rfl⟩ := h
    exact ⟨Tryz.f42, hi42, Tryz.func42, t42⟩
  · simp only [Option.some.injEq, Prod.mk.injEq] at h
    obtain ⟨rfl, rfl⟩ := h
    exact ⟨Tryz.f10, hi10, Tryz.func10, t10⟩
  · simp only [Option.some.injEq, Prod.mk.injEq] at h
    obtain ⟨rfl, rfl⟩ := h
    exact ⟨Tryz.f164, hi164, Tryz.func164, t164⟩
  · simp only [Option.some.injEq, Prod.mk.injEq] at h
    obtain ⟨rfl, rfl⟩ := h
    exact ⟨Tryz.f139, hi139, Tryz.func139, t139⟩
  · simp only [Option.some.injEq, Prod.mk.injEq] at h
    obtain ⟨rfl, rfl⟩ := h
    exact ⟨Tryz.f98, hi98, Tryz.func98, t98⟩
  · simp only [Option.some.injEq, Prod.mk.injEq] at h
    obtain ⟨rfl, rfl⟩ := h
    exact ⟨Tryz.f41, hi41, Tryz.func41, t41⟩
  · simp only [Option.some.injEq, Prod.mk.injEq] at h
    obtain ⟨rfl, rfl⟩ := h
    exact ⟨Tryz.f9, hi9, Tryz.func9, t9⟩
  · simp only [Option.some.injEq, Prod.mk.injEq] at h
    obtain ⟨rfl, rfl⟩ := h
    exact ⟨Tryz.f85, hi85, Tryz.func85, t85⟩
  · simp only [Option.some.injEq, Prod.mk.injEq] at h
    obtain ⟨rfl, rfl⟩ := h
    exact ⟨Tryz.f34, hi34, Tryz.func34, t34⟩
  · simp only [Option.some.injEq, Prod.mk.injEq] at h
    obtain ⟨rfl, rfl⟩ := h
    exact ⟨Tryz.f84, hi84, Tryz.func84, t84⟩
  · simp only [Option.some.injEq, Prod.mk.injEq] at h
    obtain ⟨rfl, rfl⟩ := h
    exact ⟨Tryz.f33, hi33, Tryz.func33, t33⟩
  · simp only [Option.some.injEq, Prod.mk.injEq] at h
    obtain ⟨rfl, rfl⟩ := h
    exact ⟨Tryz.f7, hi7, Tryz.func7, t7⟩
  · simp only [Option.some.injEq, Prod.mk.injEq] at h
    obtain ⟨rfl, rfl⟩ := h
    exact ⟨Tryz.f163, hi163, Tryz.func163, t163⟩
  · simp only [Option.some.injEq, Prod.mk.injEq] at h
    obtain ⟨rfl, rfl⟩ := h
    exact ⟨Tryz.f136, hi136, Tryz.func136, t136⟩
  · simp only [Option.some.injEq, Prod.mk.injEq] at h
    obtain ⟨rfl, rfl⟩ := h
    exact ⟨Tryz.f83, hi83, Tryz.func83, t83⟩
  · simp only [Option.some.injEq, Prod.mk.injEq] at h
    obtain ⟨rfl, rfl⟩ := h
    exact ⟨Tryz.f32, hi32, Tryz.func32, t32⟩
  · simp only [Option.some.injEq, Prod.mk.injEq] at h
    obtain ⟨rfl, rfl⟩ := h
    exact ⟨Tryz.f6, hi6, Tryz.func6, t6⟩
  · simp only [Option.some.injEq, Prod.mk.injEq] at h
    obtain ⟨rfl, rfl⟩ := h
    exact ⟨Tryz.f121, hi121, Tryz.func121, t121⟩
  · simp only [Option.some.injEq, Prod.mk.injEq] at h
    obtain ⟨rfl, rfl⟩ := h
    exact ⟨Tryz.f57, hi57, Tryz.func57, t57⟩
  · simp only [Option.some.injEq, Prod.mk.injEq] at h
    obtain ⟨rfl, rfl⟩ := h
    exact ⟨Tryz.f118, hi118, Tryz.func118, t118⟩
  · simp only [Option.some.injEq, Prod.mk.injEq] at h
    obtain ⟨rfl, rfl⟩ := h
    exact ⟨Tryz.f54, hi54, Tryz.func54, t54⟩
  · simp only [Option.some.injEq, Prod.mk.injEq] at h
    obtain ⟨rfl, rfl⟩ := h
    exact ⟨Tryz.f15, hi15, Tryz.func15, t15⟩
  · simp only [Option.some.injEq, Prod.mk.injEq] at h
    obtain ⟨rfl, rfl⟩ := h
    exact ⟨Tryz.f11, hi11, Tryz.func11, t11⟩
  · simp only [Option.some.injEq, Prod.mk.injEq] at h
    obtain ⟨rfl, rfl⟩ := h
    exact ⟨Tryz.f138, hi138, Tryz.func138, t138⟩
  · simp only [Option.some.injEq, Prod.mk.injEq] at h
    obtain ⟨rfl, rfl⟩ := h
    exact ⟨Tryz.f95, hi95, Tryz.func95, t95⟩
  · simp only [Option.some.injEq, Prod.mk.injEq] at h
    obtain ⟨rfl, rfl⟩ := h
    exact ⟨Tryz.f39, hi39, Tryz.func39, t39⟩
  · simp only [Option.some.injEq, Prod.mk.injEq] at h
    obtain ⟨rfl, rfl⟩ := h
    exact ⟨Tryz.f8, hi8, Tryz.func8, t8⟩
  · simp only [Option.some.injEq, Prod.mk.injEq] at h
    obtain ⟨rfl, rfl⟩ := h
    exact ⟨Tryz.f3, hi3, Tryz.func3, t3⟩
  · cases h
theorem con (N k f : Nat) (s : Sig) (h : shapes Sn T f = some s) : Con Tryz.prog (Lv N k) f s := level_con (by kernel_rfl) nat tab k f s h
end Go.Proofs.YtecleaangfcloabGreat.VtFnExactSynced
