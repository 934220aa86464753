/- The functions that FnExactStateRead reaches, as texts of the language of values, and that these are what the code says. Definitions and lemmas, no statement. -/
import Derived.Test.YtecleaangfcloabProg
import Derived.Test.YtecleaangfcloabVmNat
import Derived.KernelRfl
import Derived.WalkKit
import Derived.Tactics
namespace Go.Proofs.Ytecleaangfcloab.VtFnExactStateRead
open Go.Vm Go.RowKit
set_option maxRecDepth 100000
set_option linter.unusedVariables false
set_option linter.unusedSimpArgs false
/- loop.example/g00365/laws.heldLastS -/
def sg96 : Sig := ⟨[.val, .val], [((.int .i64), .sh)], true, none, false⟩
def hi96 : Hints := [((0, 2), ⟨[(4, .sh), (1, .sh), (5, .sh)], [], []⟩)]
def ir96 : IR := (.label true
 (.letE ⟨.len, [(.var 0)]⟩
 (.letE ⟨(.bin .lss 3), [(.var 4), (.var 5)]⟩
 (.ite (.var 6)
 (.letE ⟨(.idx 4), [(.var 0), (.var 4)]⟩
 (.letE ⟨.a, [(.fld (.var 7) 0)]⟩
 (.letE ⟨(.bin .neq 3), [(.var 8), (.var 3)]⟩
 (.ite (.var 9)
 (.ret [(.int .i64 (-1))])
 (.letE ⟨(.bin .add 3), [(.var 3), (.int .i64 (1))]⟩
 (.letE ⟨(.idx 4), [(.var 0), (.var 4)]⟩
 (.letE ⟨.a, [(.fld (.var 11) 1)]⟩
 (.letE ⟨(.bin .neq 3), [(.var 12), (.var 10)]⟩
 (.ite (.var 13)
 (.ret [(.int .i64 (-1))])
 (.letE ⟨(.bin .add 3), [(.var 10), (.int .i64 (1))]⟩
 (.letE ⟨(.idx 4), [(.var 0), (.var 4)]⟩
 (.letE ⟨.a, [(.fld (.var 15) 2)]⟩
 (.letE ⟨(.bin .neq 3), [(.var 16), (.var 14)]⟩
 (.ite (.var 17)
 (.ret [(.int .i64 (-1))])
 (.letE ⟨(.bin .add 3), [(.var 14), (.int .i64 (1))]⟩
 (.letE ⟨(.idx 4), [(.var 0), (.var 4)]⟩
 (.letE ⟨.a, [(.fld (.var 19) 3)]⟩
 (.letE ⟨(.bin .neq 3), [(.var 20), (.var 18)]⟩
 (.ite (.var 21)
 (.ret [(.int .i64 (-1))])
 (.letE ⟨(.bin .add 3), [(.var 18), (.int .i64 (1))]⟩
 (.letE ⟨(.bin .add 3), [(.var 4), (.int .i64 (1))]⟩
 (.jump 0 [(.var 2), (.var 22), (.var 23)]))))))))))))))))))))))
 (.ret [(.var 3)]))))
 (.jump 0 [(.int .i64 (0)), (.var 1), (.int .i64 (0))]))
/- loop.example/g00365/laws.heldSessionS -/
def sg95 : Sig := ⟨[.val, .val], [((.int .i64), .sh)], true, none, false⟩
def hi95 : Hints := [((0, 2), ⟨[(4, .sh), (1, .sh), (5, .sh)], [], []⟩)]
def ir95 : IR := (.label true
 (.letE ⟨.len, [(.var 0)]⟩
 (.letE ⟨(.bin .lss 3), [(.var 4), (.var 5)]⟩
 (.ite (.var 6)
 (.letE ⟨(.idx 2), [(.var 0), (.var 4)]⟩
 (.letE ⟨.a, [(.fld (.var 7) 0)]⟩
 (.letE ⟨(.bin .neq 3), [(.var 8), (.var 3)]⟩
 (.ite (.var 9)
 (.ret [(.int .i64 (-1))])
 (.letE ⟨(.bin .add 3), [(.var 3), (.int .i64 (1))]⟩
 (.letE ⟨(.idx 2), [(.var 0), (.var 4)]⟩
 (.letE ⟨.a, [(.fld (.var 11) 1)]⟩
 (.letE ⟨(.bin .rem 3), [(.var 10), (.int .i64 (3))]⟩
 (.letE ⟨(.bin .eql 3), [(.var 13), (.int .i64 (0))]⟩
 (.letE ⟨(.beq true), [(.var 12), (.var 14)]⟩
 (.ite (.var 15)
 (.ret [(.int .i64 (-1))])
 (.letE ⟨(.bin .add 3), [(.var 10), (.int .i64 (1))]⟩
 (.letE ⟨(.bin .add 3), [(.var 4), (.int .i64 (1))]⟩
 (.jump 0 [(.var 2), (.var 16), (.var 17)]))))))))))))))
 (.ret [(.var 3)]))))
 (.jump 0 [(.int .i64 (0)), (.var 1), (.int .i64 (0))]))
/- loop.example/g00365/laws.heldByteS -/
def sg49 : Sig := ⟨[.val, .val], [((.int .i64), .sh)], true, none, false⟩
def hi49 : Hints := [((0, 2), ⟨[(4, .sh), (1, .sh), (5, .sh)], [], []⟩)]
def ir49 : IR := (.label true
 (.letE ⟨.len, [(.var 0)]⟩
 (.letE ⟨(.bin .lss 3), [(.var 4), (.var 5)]⟩
 (.ite (.var 6)
 (.letE ⟨(.idx 1), [(.var 0), (.var 4)]⟩
 (.letE ⟨.a, [(.fld (.var 7) 0)]⟩
 (.letE ⟨(.conv .u8), [(.var 3)]⟩
 (.letE ⟨(.bin .neq 5), [(.var 8), (.var 9)]⟩
 (.ite (.var 10)
 (.ret [(.int .i64 (-1))])
 (.letE ⟨(.bin .add 3), [(.var 3), (.int .i64 (1))]⟩
 (.letE ⟨(.bin .add 3), [(.var 4), (.int .i64 (1))]⟩
 (.jump 0 [(.var 2), (.var 11), (.var 12)]))))))))
 (.ret [(.var 3)]))))
 (.jump 0 [(.int .i64 (0)), (.var 1), (.int .i64 (0))]))
/- loop.example/g00365/laws.heldRowS -/
def sg93 : Sig := ⟨[.val, .val], [((.int .i64), .sh)], true, none, false⟩
def hi93 : Hints := [((0, 2), ⟨[(1, .sh), (4, .sh), (5, .sh)], [], []⟩)]
def ir93 : IR := (.label true
 (.letE ⟨.len, [(.var 0)]⟩
 (.letE ⟨(.bin .lss 3), [(.var 4), (.var 5)]⟩
 (.ite (.var 6)
 (.letE ⟨(.idx 4), [(.var 0), (.var 4)]⟩
 (.letE ⟨.a, [(.fld (.var 7) 0)]⟩
 (.call 49 [(.var 8), (.var 2)] 1
 (.letE ⟨(.bin .lss 3), [(.var 9), (.int .i64 (0))]⟩
 (.ite (.var 10)
 (.ret [(.int .i64 (-1))])
 (.letE ⟨(.idx 4), [(.var 0), (.var 4)]⟩
 (.letE ⟨.a, [(.fld (.var 11) 1)]⟩
 (.call 49 [(.var 12), (.var 9)] 1
 (.letE ⟨(.bin .lss 3), [(.var 13), (.int .i64 (0))]⟩
 (.ite (.var 14)
 (.ret [(.int .i64 (-1))])
 (.letE ⟨(.idx 4), [(.var 0), (.var 4)]⟩
 (.letE ⟨.a, [(.fld (.var 15) 2)]⟩
 (.letE ⟨(.bin .neq 3), [(.var 16), (.var 13)]⟩
 (.ite (.var 17)
 (.ret [(.int .i64 (-1))])
 (.letE ⟨(.bin .add 3), [(.var 13), (.int .i64 (1))]⟩
 (.letE ⟨(.idx 4), [(.var 0), (.var 4)]⟩
 (.letE ⟨.a, [(.fld (.var 19) 3)]⟩
 (.letE ⟨(.bin .neq 3), [(.var 20), (.var 18)]⟩
 (.ite (.var 21)
 (.ret [(.int .i64 (-1))])
 (.letE ⟨(.bin .add 3), [(.var 18), (.int .i64 (1))]⟩
 (.letE ⟨(.bin .add 3), [(.var 4), (.int .i64 (1))]⟩
 (.jump 0 [(.var 22), (.var 3), (.var 23)]))))))))))))))))))))))
 (.ret [(.var 2)]))))
 (.jump 0 [(.var 1), (.int .i64 (0)), (.int .i64 (0))]))
/- loop.example/g00365/laws.markLastS -/
def sg92 : Sig := ⟨[.val], [((.int .i64), .sh)], true, some (0, .row (.sl (.pair (.int .i64) (.pair (.int .i64) (.pair (.int .i64) (.pair (.int .i64) .unit)))))), false⟩
def hi92 : Hints := [((0, 2), ⟨[(1, .sh), (5, .sh), (0, (.own .sh))], [], []⟩)]
def ir92 : IR := (.label true
 (.letE ⟨.len, [(.var 4)]⟩
 (.letE ⟨(.bin .lss 3), [(.var 3), (.var 5)]⟩
 (.ite (.var 6)
 (.letE ⟨(.idx 4), [(.var 4), (.var 3)]⟩
 (.letE ⟨(.set 4 0 1), [(.var 4), (.var 3), (.var 2)]⟩
 (.letE ⟨(.bin .add 3), [(.var 2), (.int .i64 (1))]⟩
 (.letE ⟨(.idx 4), [(.var 8), (.var 3)]⟩
 (.letE ⟨(.set 4 1 1), [(.var 8), (.var 3), (.var 9)]⟩
 (.letE ⟨(.bin .add 3), [(.var 9), (.int .i64 (1))]⟩
 (.letE ⟨(.idx 4), [(.var 11), (.var 3)]⟩
 (.letE ⟨(.set 4 2 1), [(.var 11), (.var 3), (.var 12)]⟩
 (.letE ⟨(.bin .add 3), [(.var 12), (.int .i64 (1))]⟩
 (.letE ⟨(.idx 4), [(.var 14), (.var 3)]⟩
 (.letE ⟨(.set 4 3 1), [(.var 14), (.var 3), (.var 15)]⟩
 (.letE ⟨(.bin .add 3), [(.var 15), (.int .i64 (1))]⟩
 (.letE ⟨(.bin .add 3), [(.var 3), (.int .i64 (1))]⟩
 (.jump 0 [(.var 18), (.var 19), (.var 17)]))))))))))))))
 (.ret [(.var 2), (.var 4)]))))
 (.jump 0 [(.var 0), (.int .i64 (0)), (.var 1)]))
/- loop.example/g00365/laws.markSessionS -/
def sg91 : Sig := ⟨[.val], [((.int .i64), .sh)], true, some (0, .row (.sl (.pair (.int .i64) (.pair .bool .unit)))), false⟩
def hi91 : Hints := [((0, 2), ⟨[(1, .sh), (5, .sh), (0, (.own .sh))], [], []⟩)]
def ir91 : IR := (.label true
 (.letE ⟨.len, [(.var 4)]⟩
 (.letE ⟨(.bin .lss 3), [(.var 3), (.var 5)]⟩
 (.ite (.var 6)
 (.letE ⟨(.idx 2), [(.var 4), (.var 3)]⟩
 (.letE ⟨(.set 2 0 1), [(.var 4), (.var 3), (.var 2)]⟩
 (.letE ⟨(.bin .add 3), [(.var 2), (.int .i64 (1))]⟩
 (.letE ⟨(.bin .rem 3), [(.var 9), (.int .i64 (3))]⟩
 (.letE ⟨(.bin .eql 3), [(.var 10), (.int .i64 (0))]⟩
 (.letE ⟨(.idx 2), [(.var 8), (.var 3)]⟩
 (.letE ⟨(.set 2 1 1), [(.var 8), (.var 3), (.var 11)]⟩
 (.letE ⟨(.bin .add 3), [(.var 9), (.int .i64 (1))]⟩
 (.letE ⟨(.bin .add 3), [(.var 3), (.int .i64 (1))]⟩
 (.jump 0 [(.var 14), (.var 15), (.var 13)]))))))))))
 (.ret [(.var 2), (.var 4)]))))
 (.jump 0 [(.var 0), (.int .i64 (0)), (.var 1)]))
/- loop.example/g00365/laws.markByteS -/
def sg15 : Sig := ⟨[.val], [((.int .i64), .sh)], true, some (0, .row (.sl (.int .u8))), false⟩
def hi15 : Hints := [((0, 2), ⟨[(1, .sh), (5, .sh), (0, (.own .sh))], [], []⟩)]
def ir15 : IR := (.label true
 (.letE ⟨.len, [(.var 4)]⟩
 (.letE ⟨(.bin .lss 3), [(.var 3), (.var 5)]⟩
 (.ite (.var 6)
 (.letE ⟨(.conv .u8), [(.var 2)]⟩
 (.letE ⟨(.idx 1), [(.var 4), (.var 3)]⟩
 (.letE ⟨(.setE 1), [(.var 4), (.var 3), (.var 7)]⟩
 (.letE ⟨(.bin .add 3), [(.var 2), (.int .i64 (1))]⟩
 (.letE ⟨(.bin .add 3), [(.var 3), (.int .i64 (1))]⟩
 (.jump 0 [(.var 10), (.var 11), (.var 9)]))))))
 (.ret [(.var 2), (.var 4)]))))
 (.jump 0 [(.var 0), (.int .i64 (0)), (.var 1)]))
/- loop.example/g00365/laws.eqReply -/
def sg167 : Sig := ⟨[.val, .val], [(.bool, .sh)], true, none, false⟩
def hi167 : Hints := []
def ir167 : IR := (.letE ⟨(.all 2), [(.var 0)]⟩
 (.letE ⟨(.all 2), [(.var 1)]⟩
 (.letE ⟨(.bin .neq 3), [(.fld (.var 2) 0), (.fld (.var 3) 0)]⟩
 (.ite (.var 4)
 (.ret [(.bool false)])
 (.letE ⟨(.bin .neq 3), [(.fld (.var 2) 1), (.fld (.var 3) 1)]⟩
 (.ite (.var 5)
 (.ret [(.bool false)])
 (.ret [(.bool true)])))))))
/- loop.example/g00365/laws.eqLast -/
def sg151 : Sig := ⟨[.val, .val], [(.bool, .sh)], true, none, false⟩
def hi151 : Hints := []
def ir151 : IR := (.letE ⟨(.all 4), [(.var 0)]⟩
 (.letE ⟨(.all 4), [(.var 1)]⟩
 (.letE ⟨(.bin .neq 3), [(.fld (.var 2) 0), (.fld (.var 3) 0)]⟩
 (.ite (.var 4)
 (.ret [(.bool false)])
 (.letE ⟨(.bin .neq 3), [(.fld (.var 2) 1), (.fld (.var 3) 1)]⟩
 (.ite (.var 5)
 (.ret [(.bool false)])
 (.letE ⟨.mk, [(.fld (.var 2) 2), (.fld (.var 2) 3)]⟩
 (.letE ⟨.mk, [(.fld (.var 3) 2), (.fld (.var 3) 3)]⟩
 (.call 167 [(.var 6), (.var 7)] 1
 (.letE ⟨(.un .not), [(.var 8)]⟩
 (.ite (.var 9)
 (.ret [(.bool false)])
 (.ret [(.bool true)]))))))))))))
/- loop.example/g00365/laws.eqLastS -/
def sg88 : Sig := ⟨[.val, .val], [(.bool, .sh)], true, none, false⟩
def hi88 : Hints := [((0, 4), ⟨[(4, .sh), (5, .sh)], [], []⟩)]
def ir88 : IR := (.letE ⟨.len, [(.var 0)]⟩
 (.letE ⟨.len, [(.var 1)]⟩
 (.letE ⟨(.bin .neq 3), [(.var 2), (.var 3)]⟩
 (.ite (.var 4)
 (.ret [(.bool false)])
 (.label true
 (.letE ⟨.len, [(.var 0)]⟩
 (.letE ⟨(.bin .lss 3), [(.var 6), (.var 7)]⟩
 (.ite (.var 8)
 (.letE ⟨(.idx 4), [(.var 0), (.var 6)]⟩
 (.letE ⟨(.cells 0 4), [(.var 9)]⟩
 (.letE ⟨(.idx 4), [(.var 1), (.var 6)]⟩
 (.letE ⟨(.cells 0 4), [(.var 11)]⟩
 (.call 151 [(.var 10), (.var 12)] 1
 (.letE ⟨(.un .not), [(.var 13)]⟩
 (.ite (.var 14)
 (.ret [(.bool false)])
 (.letE ⟨(.bin .add 3), [(.var 6), (.int .i64 (1))]⟩
 (.jump 0 [(.var 5), (.var 15)])))))))))
 (.ret [(.bool true)]))))
 (.jump 0 [(.bool false), (.int .i64 (0))]))))))
/- loop.example/g00365/laws.eqSession -/
def sg150 : Sig := ⟨[.val, .val], [(.bool, .sh)], true, none, false⟩
def hi150 : Hints := []
def ir150 : IR := (.letE ⟨(.all 2), [(.var 0)]⟩
 (.letE ⟨(.all 2), [(.var 1)]⟩
 (.letE ⟨(.bin .neq 3), [(.fld (.var 2) 0), (.fld (.var 3) 0)]⟩
 (.ite (.var 4)
 (.ret [(.bool false)])
 (.letE ⟨(.beq true), [(.fld (.var 2) 1), (.fld (.var 3) 1)]⟩
 (.ite (.var 5)
 (.ret [(.bool false)])
 (.ret [(.bool true)])))))))
/- loop.example/g00365/laws.eqSessionS -/
def sg87 : Sig := ⟨[.val, .val], [(.bool, .sh)], true, none, false⟩
def hi87 : Hints := [((0, 4), ⟨[(4, .sh), (5, .sh)], [], []⟩)]
def ir87 : IR := (.letE ⟨.len, [(.var 0)]⟩
 (.letE ⟨.len, [(.var 1)]⟩
 (.letE ⟨(.bin .neq 3), [(.var 2), (.var 3)]⟩
 (.ite (.var 4)
 (.ret [(.bool false)])
 (.label true
 (.letE ⟨.len, [(.var 0)]⟩
 (.letE ⟨(.bin .lss 3), [(.var 6), (.var 7)]⟩
 (.ite (.var 8)
 (.letE ⟨(.idx 2), [(.var 0), (.var 6)]⟩
 (.letE ⟨(.cells 0 2), [(.var 9)]⟩
 (.letE ⟨(.idx 2), [(.var 1), (.var 6)]⟩
 (.letE ⟨(.cells 0 2), [(.var 11)]⟩
 (.call 150 [(.var 10), (.var 12)] 1
 (.letE ⟨(.un .not), [(.var 13)]⟩
 (.ite (.var 14)
 (.ret [(.bool false)])
 (.letE ⟨(.bin .add 3), [(.var 6), (.int .i64 (1))]⟩
 (.jump 0 [(.var 5), (.var 15)])))))))))
 (.ret [(.bool true)]))))
 (.jump 0 [(.bool false), (.int .i64 (0))]))))))
/- loop.example/g00365/laws.eqByteS -/
def sg13 : Sig := ⟨[.val, .val], [(.bool, .sh)], true, none, false⟩
def hi13 : Hints := [((0, 4), ⟨[(4, .sh), (5, .sh)], [], []⟩)]
def ir13 : IR := (.letE ⟨.len, [(.var 0)]⟩
 (.letE ⟨.len, [(.var 1)]⟩
 (.letE ⟨(.bin .neq 3), [(.var 2), (.var 3)]⟩
 (.ite (.var 4)
 (.ret [(.bool false)])
 (.label true
 (.letE ⟨.len, [(.var 0)]⟩
 (.letE ⟨(.bin .lss 3), [(.var 6), (.var 7)]⟩
 (.ite (.var 8)
 (.letE ⟨(.idx 1), [(.var 0), (.var 6)]⟩
 (.letE ⟨.a, [(.fld (.var 9) 0)]⟩
 (.letE ⟨(.idx 1), [(.var 1), (.var 6)]⟩
 (.letE ⟨.a, [(.fld (.var 11) 0)]⟩
 (.letE ⟨(.bin .neq 5), [(.var 10), (.var 12)]⟩
 (.ite (.var 13)
 (.ret [(.bool false)])
 (.letE ⟨(.bin .add 3), [(.var 6), (.int .i64 (1))]⟩
 (.jump 0 [(.var 5), (.var 14)]))))))))
 (.ret [(.bool true)]))))
 (.jump 0 [(.bool false), (.int .i64 (0))]))))))
/- loop.example/g00365/laws.eqRow -/
def sg148 : Sig := ⟨[.val, .val], [(.bool, .sh)], true, none, false⟩
def hi148 : Hints := []
def ir148 : IR := (.letE ⟨(.all 4), [(.var 0)]⟩
 (.letE ⟨(.all 4), [(.var 1)]⟩
 (.call 13 [(.fld (.var 2) 0), (.fld (.var 3) 0)] 1
 (.letE ⟨(.un .not), [(.var 4)]⟩
 (.ite (.var 5)
 (.ret [(.bool false)])
 (.call 13 [(.fld (.var 2) 1), (.fld (.var 3) 1)] 1
 (.letE ⟨(.un .not), [(.var 6)]⟩
 (.ite (.var 7)
 (.ret [(.bool false)])
 (.letE ⟨(.bin .neq 3), [(.fld (.var 2) 2), (.fld (.var 3) 2)]⟩
 (.ite (.var 8)
 (.ret [(.bool false)])
 (.letE ⟨(.bin .neq 3), [(.fld (.var 2) 3), (.fld (.var 3) 3)]⟩
 (.ite (.var 9)
 (.ret [(.bool false)])
 (.ret [(.bool true)])))))))))))))
/- loop.example/g00365/laws.eqRowS -/
def sg85 : Sig := ⟨[.val, .val], [(.bool, .sh)], true, none, false⟩
def hi85 : Hints := [((0, 4), ⟨[(4, .sh), (5, .sh)], [], []⟩)]
def ir85 : IR := (.letE ⟨.len, [(.var 0)]⟩
 (.letE ⟨.len, [(.var 1)]⟩
 (.letE ⟨(.bin .neq 3), [(.var 2), (.var 3)]⟩
 (.ite (.var 4)
 (.ret [(.bool false)])
 (.label true
 (.letE ⟨.len, [(.var 0)]⟩
 (.letE ⟨(.bin .lss 3), [(.var 6), (.var 7)]⟩
 (.ite (.var 8)
 (.letE ⟨(.idx 4), [(.var 0), (.var 6)]⟩
 (.letE ⟨(.cells 0 4), [(.var 9)]⟩
 (.letE ⟨(.idx 4), [(.var 1), (.var 6)]⟩
 (.letE ⟨(.cells 0 4), [(.var 11)]⟩
 (.call 148 [(.var 10), (.var 12)] 1
 (.letE ⟨(.un .not), [(.var 13)]⟩
 (.ite (.var 14)
 (.ret [(.bool false)])
 (.letE ⟨(.bin .add 3), [(.var 6), (.int .i64 (1))]⟩
 (.jump 0 [(.var 5), (.var 15)])))))))))
 (.ret [(.bool true)]))))
 (.jump 0 [(.bool false), (.int .i64 (0))]))))))
/- loop.example/g00365/impl.truth -/
def sg114 : Sig := ⟨[.val], [((.int .i64), .sh)], true, none, false⟩
def hi114 : Hints := []
def ir114 : IR := (.ite (.var 0)
 (.ret [(.int .i64 (1))])
 (.ret [(.int .i64 (0))]))
/- loop.example/g00365/impl.putNum -/
def sg112 : Sig := ⟨[.val], [((.sl (.int .u8)), (.own .sh))], true, some (0, .mov (.sl (.int .u8)) (.own .sh)), false⟩
def hi112 : Hints := [((0, 1), ⟨[(0, (.own .sh)), (1, .sh), (4, (.own .sh))], [], []⟩)]
def ir112 : IR := (.label true
 (.letE ⟨(.bin .geq 3), [(.var 3), (.int .i64 (128))]⟩
 (.ite (.var 5)
 (.letE ⟨(.bin .rem 3), [(.var 3), (.int .i64 (128))]⟩
 (.letE ⟨(.conv .u8), [(.var 6)]⟩
 (.letE ⟨(.bin .add 5), [(.var 7), (.int .u8 (128))]⟩
 (.letE ⟨(.lst (.int .u8)), [(.var 8)]⟩
 (.letE ⟨(.app (.int .u8)), [(.var 2), (.var 9)]⟩
 (.letE ⟨(.bin .quo 3), [(.var 3), (.int .i64 (128))]⟩
 (.jump 0 [(.var 10), (.var 11), (.var 4)])))))))
 (.letE ⟨(.conv .u8), [(.var 3)]⟩
 (.letE ⟨(.lst (.int .u8)), [(.var 6)]⟩
 (.letE ⟨(.app (.int .u8)), [(.var 2), (.var 7)]⟩
 (.ret [(.var 8)]))))))
 (.jump 0 [(.var 1), (.var 0), (.nil (.int .u8))]))
/- loop.example/g00365/impl.stateBytes$1 -/
def sg111 : Sig := ⟨[.val], [], true, some (1, .box (.sl (.int .u8)) (.own .sh) (.own .sh)), false⟩
def hi111 : Hints := [((0, 1), ⟨[(7, .sh)], [((1, 0), (.own .sh))], []⟩)]
def ir111 : IR := (.letE ⟨.len, [(.var 0)]⟩
 (.label true
 (.letE ⟨(.bin .lss 3), [(.var 3), (.var 2)]⟩
 (.ite (.var 5)
 (.letE ⟨(.idx 1), [(.var 0), (.var 3)]⟩
 (.letE ⟨.a, [(.fld (.var 6) 0)]⟩
 (.letE ⟨.len, [(.var 4)]⟩
 (.call 112 [(.var 7), (.var 4)] 1
 (.letE ⟨.atom, [(.var 9)]⟩
 (.letE ⟨(.bin .add 3), [(.var 3), (.int .i64 (1))]⟩
 (.jump 0 [(.var 11), (.var 10)])))))))
 (.ret [(.var 4)])))
 (.jump 0 [(.int .i64 (0)), (.var 1)])))
/- bytes.Equal -/
def sg69 : Sig := ⟨[.val, .val], [(.bool, .sh)], true, none, false⟩
def hi69 : Hints := []
def ir69 : IR := (.letE ⟨.text, [(.var 0)]⟩
 (.letE ⟨.text, [(.var 1)]⟩
 (.letE ⟨(.bin .eql 9), [(.var 2), (.var 3)]⟩
 (.ret [(.var 4)]))))
/- (loop.example/g00365/impl.State).tomb$1 -/
def sg121 : Sig := ⟨[.val, .rd], [(.bool, .sh)], true, none, false⟩
def hi121 : Hints := []
def ir121 : IR := (.letE ⟨(.all 2), [(.var 0)]⟩
 (.letE ⟨.a, [(.fld (.var 1) 0)]⟩
 (.call 69 [(.fld (.var 2) 0), (.var 3)] 1
 (.ret [(.var 4)]))))
/- (loop.example/g00365/impl.State).row$1 -/
def sg119 : Sig := ⟨[.val, .val], [((.int .i64), .sh)], true, none, false⟩
def hi119 : Hints := []
def ir119 : IR := (.letE ⟨(.all 4), [(.var 0)]⟩
 (.call 63 [(.fld (.var 2) 0), (.var 1)] 1
 (.ret [(.var 3)])))
/- slices.BinarySearchFunc[[]loop.example/g00365/impl.Row,loop.example/g00365/impl.Row,[]byte] -/
def sg118 : Sig := ⟨[.val, .val, (.fn 119 0)], [((.int .i64), .sh), (.bool, .sh)], true, none, false⟩
def hi118 : Hints := [((0, 3), ⟨[(9, .sh), (10, .sh)], [], []⟩)]
def ir118 : IR := (.letE ⟨.len, [(.var 0)]⟩
 (.label true
 (.letE ⟨(.bin .lss 3), [(.var 3), (.var 4)]⟩
 (.ite (.var 5)
 (.letE ⟨(.bin .add 3), [(.var 3), (.var 4)]⟩
 (.letE ⟨(.conv .u64), [(.var 6)]⟩
 (.letE ⟨(.bin .shr 197), [(.var 7), (.int .u64 (1))]⟩
 (.letE ⟨(.conv .i64), [(.var 8)]⟩
 (.letE ⟨(.idx 4), [(.var 0), (.var 9)]⟩
 (.letE ⟨(.cells 0 4), [(.var 10)]⟩
 (.call 119 [(.var 11), (.var 1)] 1
 (.letE ⟨(.bin .lss 3), [(.var 12), (.int .i64 (0))]⟩
 (.ite (.var 13)
 (.letE ⟨(.bin .add 3), [(.var 9), (.int .i64 (1))]⟩
 (.jump 0 [(.var 14), (.var 4)]))
 (.jump 0 [(.var 3), (.var 9)]))))))))))
 (.letE ⟨(.bin .lss 3), [(.var 3), (.var 2)]⟩
 (.ite (.var 6)
 (.letE ⟨(.idx 4), [(.var 0), (.var 3)]⟩
 (.letE ⟨(.cells 0 4), [(.var 7)]⟩
 (.call 119 [(.var 8), (.var 1)] 1
 (.letE ⟨(.bin .eql 3), [(.var 9), (.int .i64 (0))]⟩
 (.ret [(.var 3), (.var 10)])))))
 (.ret [(.var 3), (.bool false)])))))
 (.jump 0 [(.int .i64 (0)), (.var 2)])))
/- (loop.example/g00365/impl.State).row -/
def sg64 : Sig := ⟨[.val, .val], [((.int .i64), .sh), (.bool, .sh)], true, none, false⟩
def hi64 : Hints := []
def ir64 : IR := (.letE ⟨(.all 6), [(.var 0)]⟩
 (.call 118 [(.fld (.var 2) 1), (.var 1)] 2
 (.ret [(.var 3), (.var 4)])))
/- (loop.example/g00365/impl.State).session$1 -/
def sg116 : Sig := ⟨[.val, .rd], [(.bool, .sh)], true, none, false⟩
def hi116 : Hints := []
def ir116 : IR := (.letE ⟨(.all 2), [(.var 0)]⟩
 (.letE ⟨.a, [(.fld (.var 1) 0)]⟩
 (.letE ⟨(.bin .eql 3), [(.fld (.var 2) 0), (.var 3)]⟩
 (.ret [(.var 4)]))))
/- loop.example/g00365/impl.isValue -/
def sg61 : Sig := ⟨[.val], [(.bool, .sh)], true, none, false⟩
def hi61 : Hints := []
def ir61 : IR := (.letE ⟨.len, [(.var 0)]⟩
 (.letE ⟨(.bin .leq 3), [(.var 1), (.int .i64 (20))]⟩
 (.ret [(.var 2)])))
/- loop.example/g00365/impl.within -/
def sg41 : Sig := ⟨[.val, .val, .val], [(.bool, .sh)], true, none, false⟩
def hi41 : Hints := []
def ir41 : IR := (.letE ⟨(.bin .leq 3), [(.var 1), (.var 0)]⟩
 (.ite (.var 3)
 (.letE ⟨(.bin .leq 3), [(.var 0), (.var 2)]⟩
 (.ret [(.var 4)]))
 (.ret [(.bool false)])))
/- slices.Clone[[]byte,byte] -/
def sg107 : Sig := ⟨[.val], [((.sl (.int .u8)), (.own .sh))], true, none, false⟩
def hi107 : Hints := []
def ir107 : IR := (.letE ⟨.len, [(.var 0)]⟩
 (.amb false (.var 0)
 (.ret [(.nil (.int .u8))])
 (.letE ⟨(.lst (.int .u8)), []⟩
 (.letE ⟨(.app (.int .u8)), [(.var 2), (.var 0)]⟩
 (.ret [(.var 3)])))))
/- loop.example/g00365/impl.GetNum -/
def sg122 : Sig := ⟨[.val, .val], [((.int .i64), .sh), ((.int .i64), .sh)], true, none, false⟩
def hi122 : Hints := [((0, 3), ⟨[(6, .sh), (7, .sh), (4, .sh), (5, .sh), (8, .sh)], [], []⟩)]
def ir122 : IR := (.label true
 (.letE ⟨(.bin .geq 3), [(.var 6), (.int .i64 (0))]⟩
 (.ite (.var 7)
 (.letE ⟨.len, [(.var 0)]⟩
 (.letE ⟨(.bin .lss 3), [(.var 6), (.var 8)]⟩
 (.ite (.var 9)
 (.letE ⟨(.bin .add 3), [(.var 1), (.int .i64 (5))]⟩
 (.letE ⟨(.bin .lss 3), [(.var 6), (.var 10)]⟩
 (.ite (.var 11)
 (.letE ⟨(.idx 1), [(.var 0), (.var 6)]⟩
 (.letE ⟨.a, [(.fld (.var 12) 0)]⟩
 (.letE ⟨(.bin .rem 5), [(.var 13), (.int .u8 (128))]⟩
 (.letE ⟨(.conv .i64), [(.var 14)]⟩
 (.letE ⟨(.bin .mul 3), [(.var 15), (.var 3)]⟩
 (.letE ⟨(.bin .add 3), [(.var 2), (.var 16)]⟩
 (.letE ⟨(.bin .mul 3), [(.var 3), (.int .i64 (128))]⟩
 (.letE ⟨(.idx 1), [(.var 0), (.var 6)]⟩
 (.letE ⟨.a, [(.fld (.var 19) 0)]⟩
 (.letE ⟨(.bin .geq 5), [(.var 20), (.int .u8 (128))]⟩
 (.ite (.var 21)
 (.letE ⟨(.bin .add 3), [(.var 6), (.int .i64 (1))]⟩
 (.jump 0 [(.var 17), (.var 18), (.var 4), (.var 5), (.var 22)]))
 (.letE ⟨(.bin .gtr 3), [(.var 6), (.var 1)]⟩
 (.ite (.var 22)
 (.letE ⟨(.idx 1), [(.var 0), (.var 6)]⟩
 (.letE ⟨.a, [(.fld (.var 23) 0)]⟩
 (.letE ⟨(.bin .eql 5), [(.var 24), (.int .u8 (0))]⟩
 (.ite (.var 25)
 (.ret [(.int .i64 (0)), (.int .i64 (-1))])
 (.letE ⟨(.bin .gtr 3), [(.var 17), (.int .i64 (2147483647))]⟩
 (.ite (.var 26)
 (.ret [(.int .i64 (0)), (.int .i64 (-1))])
 (.letE ⟨(.bin .add 3), [(.var 6), (.int .i64 (1))]⟩
 (.ret [(.var 17), (.var 27)]))))))))
 (.letE ⟨(.bin .gtr 3), [(.var 17), (.int .i64 (2147483647))]⟩
 (.ite (.var 23)
 (.ret [(.int .i64 (0)), (.int .i64 (-1))])
 (.letE ⟨(.bin .add 3), [(.var 6), (.int .i64 (1))]⟩
 (.ret [(.var 17), (.var 24)])))))))))))))))))
 (.ret [(.int .i64 (0)), (.int .i64 (-1))]))))
 (.ret [(.int .i64 (0)), (.int .i64 (-1))]))))
 (.ret [(.int .i64 (0)), (.int .i64 (-1))])))
 (.jump 0 [(.int .i64 (0)), (.int .i64 (1)), (.int .i64 (0)), (.int .i64 (0)), (.var 1)]))
/- (*loop.example/g00365/impl.taker).num -/
def sg66 : Sig := ⟨[], [((.int .i64), .sh)], true, some (0, .box (.pair (.sl (.int .u8)) (.pair (.int .i64) .unit)) .sh .sh), false⟩
def hi66 : Hints := []
def ir66 : IR := (.call 122 [(.fld (.var 0) 0), (.fld (.var 0) 1)] 2
 (.letE ⟨.atom, [(.var 2)]⟩
 (.letE ⟨.mk, [(.fld (.var 0) 0), (.var 3)]⟩
 (.ret [(.var 1), (.var 4)]))))
/- loop.example/g00365/spec.PutNum -/
def sg124 : Sig := ⟨[.val, .val], [((.sl (.int .u8)), (.own .sh))], false, none, false⟩
def hi124 : Hints := [((0, 4), ⟨[(5, (.own .sh)), (1, .sh), (4, (.own .sh))], [], []⟩)]
def ir124 : IR := (.letE ⟨(.lst (.int .u8)), []⟩
 (.letE ⟨(.app (.int .u8)), [(.var 2), (.var 0)]⟩
 (.letE ⟨(.bin .lss 3), [(.var 1), (.int .i64 (0))]⟩
 (.ite (.var 4)
 (.ret [(.var 3)])
 (.letE ⟨(.bin .gtr 3), [(.var 1), (.int .i64 (2147483647))]⟩
 (.ite (.var 5)
 (.ret [(.var 3)])
 (.label true
 (.letE ⟨(.bin .gtr 3), [(.var 7), (.int .i64 (127))]⟩
 (.ite (.var 9)
 (.letE ⟨(.bin .rem 3), [(.var 7), (.int .i64 (128))]⟩
 (.letE ⟨(.bin .add 3), [(.var 10), (.int .i64 (128))]⟩
 (.letE ⟨(.conv .u8), [(.var 11)]⟩
 (.letE ⟨(.lst (.int .u8)), [(.var 12)]⟩
 (.letE ⟨(.app (.int .u8)), [(.var 6), (.var 13)]⟩
 (.letE ⟨(.bin .quo 3), [(.var 7), (.int .i64 (128))]⟩
 (.jump 0 [(.var 14), (.var 15), (.var 8)])))))))
 (.letE ⟨(.conv .u8), [(.var 7)]⟩
 (.letE ⟨(.lst (.int .u8)), [(.var 10)]⟩
 (.letE ⟨(.app (.int .u8)), [(.var 6), (.var 11)]⟩
 (.ret [(.var 12)]))))))
 (.jump 0 [(.var 3), (.var 1), (.nil (.int .u8))]))))))))
/- loop.example/g00365/spec.l2tomb -/
def sg59 : Sig := ⟨[.val, .val], [((.int .i64), .sh)], false, none, false⟩
def hi59 : Hints := [((0, 2), ⟨[(4, .sh), (5, .sh)], [], []⟩)]
def ir59 : IR := (.letE ⟨(.all 6), [(.var 0)]⟩
 (.label true
 (.letE ⟨.len, [(.fld (.var 2) 2)]⟩
 (.letE ⟨(.bin .lss 3), [(.var 4), (.var 5)]⟩
 (.ite (.var 6)
 (.letE ⟨(.idx 2), [(.fld (.var 2) 2), (.var 4)]⟩
 (.letE ⟨.a, [(.fld (.var 7) 0)]⟩
 (.letE ⟨.text, [(.var 8)]⟩
 (.letE ⟨.text, [(.var 1)]⟩
 (.letE ⟨(.bin .eql 9), [(.var 9), (.var 10)]⟩
 (.ite (.var 11)
 (.ret [(.var 4)])
 (.letE ⟨(.bin .add 3), [(.var 4), (.int .i64 (1))]⟩
 (.jump 0 [(.var 3), (.var 12)]))))))))
 (.ret [(.int .i64 (-1))]))))
 (.jump 0 [(.int .i64 (0)), (.int .i64 (0))])))
/- loop.example/g00365/spec.l2row -/
def sg58 : Sig := ⟨[.val, .val], [((.int .i64), .sh)], false, none, false⟩
def hi58 : Hints := [((0, 2), ⟨[(4, .sh), (5, .sh)], [], []⟩)]
def ir58 : IR := (.letE ⟨(.all 6), [(.var 0)]⟩
 (.label true
 (.letE ⟨.len, [(.fld (.var 2) 1)]⟩
 (.letE ⟨(.bin .lss 3), [(.var 4), (.var 5)]⟩
 (.ite (.var 6)
 (.letE ⟨(.idx 4), [(.fld (.var 2) 1), (.var 4)]⟩
 (.letE ⟨.a, [(.fld (.var 7) 0)]⟩
 (.letE ⟨.text, [(.var 8)]⟩
 (.letE ⟨.text, [(.var 1)]⟩
 (.letE ⟨(.bin .eql 9), [(.var 9), (.var 10)]⟩
 (.ite (.var 11)
 (.ret [(.var 4)])
 (.letE ⟨(.bin .add 3), [(.var 4), (.int .i64 (1))]⟩
 (.jump 0 [(.var 3), (.var 12)]))))))))
 (.ret [(.int .i64 (-1))]))))
 (.jump 0 [(.int .i64 (0)), (.int .i64 (0))])))
/- loop.example/g00365/spec.l2sess -/
def sg57 : Sig := ⟨[.val, .val], [((.int .i64), .sh)], false, none, false⟩
def hi57 : Hints := [((0, 2), ⟨[(4, .sh), (5, .sh)], [], []⟩)]
def ir57 : IR := (.letE ⟨(.all 6), [(.var 0)]⟩
 (.label true
 (.letE ⟨.len, [(.fld (.var 2) 4)]⟩
 (.letE ⟨(.bin .lss 3), [(.var 4), (.var 5)]⟩
 (.ite (.var 6)
 (.letE ⟨(.idx 2), [(.fld (.var 2) 4), (.var 4)]⟩
 (.letE ⟨.a, [(.fld (.var 7) 0)]⟩
 (.letE ⟨(.bin .eql 3), [(.var 8), (.var 1)]⟩
 (.ite (.var 9)
 (.ret [(.var 4)])
 (.letE ⟨(.bin .add 3), [(.var 4), (.int .i64 (1))]⟩
 (.jump 0 [(.var 3), (.var 10)]))))))
 (.ret [(.int .i64 (-1))]))))
 (.jump 0 [(.int .i64 (0)), (.int .i64 (0))])))
/- loop.example/g00365/spec.l2val -/
def sg56 : Sig := ⟨[.val], [(.bool, .sh)], false, none, false⟩
def hi56 : Hints := []
def ir56 : IR := (.letE ⟨.len, [(.var 0)]⟩
 (.letE ⟨(.bin .leq 3), [(.var 1), (.int .i64 (20))]⟩
 (.ret [(.var 2)])))
/- loop.example/g00365/spec.l2key -/
def sg55 : Sig := ⟨[.val], [(.bool, .sh)], false, none, false⟩
def hi55 : Hints := [((0, 4), ⟨[(2, .sh), (3, .sh)], [], []⟩)]
def ir55 : IR := (.letE ⟨.len, [(.var 0)]⟩
 (.letE ⟨(.bin .lss 3), [(.var 1), (.int .i64 (1))]⟩
 (.ite (.var 2)
 (.ret [(.bool false)])
 (.letE ⟨.len, [(.var 0)]⟩
 (.letE ⟨(.bin .gtr 3), [(.var 3), (.int .i64 (20))]⟩
 (.ite (.var 4)
 (.ret [(.bool false)])
 (.label true
 (.letE ⟨.len, [(.var 0)]⟩
 (.letE ⟨(.bin .lss 3), [(.var 6), (.var 7)]⟩
 (.ite (.var 8)
 (.letE ⟨(.idx 1), [(.var 0), (.var 6)]⟩
 (.letE ⟨.a, [(.fld (.var 9) 0)]⟩
 (.letE ⟨(.bin .lss 5), [(.var 10), (.int .u8 (97))]⟩
 (.ite (.var 11)
 (.letE ⟨(.idx 1), [(.var 0), (.var 6)]⟩
 (.letE ⟨.a, [(.fld (.var 12) 0)]⟩
 (.letE ⟨(.bin .neq 5), [(.var 13), (.int .u8 (47))]⟩
 (.ite (.var 14)
 (.ret [(.bool false)])
 (.letE ⟨(.bin .add 3), [(.var 6), (.int .i64 (1))]⟩
 (.jump 0 [(.var 5), (.var 15)]))))))
 (.letE ⟨(.idx 1), [(.var 0), (.var 6)]⟩
 (.letE ⟨.a, [(.fld (.var 12) 0)]⟩
 (.letE ⟨(.bin .gtr 5), [(.var 13), (.int .u8 (122))]⟩
 (.ite (.var 14)
 (.letE ⟨(.idx 1), [(.var 0), (.var 6)]⟩
 (.letE ⟨.a, [(.fld (.var 15) 0)]⟩
 (.letE ⟨(.bin .neq 5), [(.var 16), (.int .u8 (47))]⟩
 (.ite (.var 17)
 (.ret [(.bool false)])
 (.letE ⟨(.bin .add 3), [(.var 6), (.int .i64 (1))]⟩
 (.jump 0 [(.var 5), (.var 18)]))))))
 (.letE ⟨(.bin .add 3), [(.var 6), (.int .i64 (1))]⟩
 (.jump 0 [(.var 5), (.var 15)]))))))))))
 (.ret [(.bool true)]))))
 (.jump 0 [(.bool false), (.int .i64 (0))]))))))))
/- loop.example/g00365/spec.l2index -/
def sg54 : Sig := ⟨[.val], [(.bool, .sh)], false, none, false⟩
def hi54 : Hints := []
def ir54 : IR := (.letE ⟨(.bin .geq 3), [(.var 0), (.int .i64 (0))]⟩
 (.ite (.var 1)
 (.letE ⟨(.bin .leq 3), [(.var 0), (.int .i64 (1000000))]⟩
 (.ret [(.var 2)]))
 (.ret [(.bool false)])))
/- loop.example/g00365/spec.StateOk -/
def sg19 : Sig := ⟨[.val], [(.bool, .sh)], false, none, false⟩
def hi19 : Hints := [((0, 21), ⟨[(2, .sh), (8, .sh)], [], []⟩), ((0, 16), ⟨[(2, .sh), (7, .sh)], [], []⟩), ((0, 10), ⟨[(2, .sh), (5, .sh)], [], []⟩), ((0, 4), ⟨[(2, .sh), (3, .sh)], [], []⟩)]
def ir19 : IR := (.letE ⟨(.all 6), [(.var 0)]⟩
 (.call 54 [(.fld (.var 1) 0)] 1
 (.letE ⟨(.un .not), [(.var 2)]⟩
 (.ite (.var 3)
 (.ret [(.bool false)])
 (.letE ⟨.len, [(.fld (.var 1) 1)]⟩
 (.letE ⟨(.bin .gtr 3), [(.var 4), (.int .i64 (20))]⟩
 (.ite (.var 5)
 (.ret [(.bool false)])
 (.letE ⟨.len, [(.fld (.var 1) 2)]⟩
 (.letE ⟨(.bin .gtr 3), [(.var 6), (.int .i64 (10))]⟩
 (.ite (.var 7)
 (.ret [(.bool false)])
 (.letE ⟨(.bin .lss 3), [(.fld (.var 1) 3), (.int .i64 (0))]⟩
 (.ite (.var 8)
 (.ret [(.bool false)])
 (.letE ⟨(.bin .gtr 3), [(.fld (.var 1) 3), (.fld (.var 1) 0)]⟩
 (.ite (.var 9)
 (.ret [(.bool false)])
 (.letE ⟨.len, [(.fld (.var 1) 4)]⟩
 (.letE ⟨(.bin .gtr 3), [(.var 10), (.int .i64 (8))]⟩
 (.ite (.var 11)
 (.ret [(.bool false)])
 (.letE ⟨.len, [(.fld (.var 1) 5)]⟩
 (.letE ⟨(.bin .gtr 3), [(.var 12), (.int .i64 (4))]⟩
 (.ite (.var 13)
 (.ret [(.bool false)])
 (.label true
 (.letE ⟨.len, [(.fld (.var 1) 1)]⟩
 (.letE ⟨(.bin .lss 3), [(.var 15), (.var 16)]⟩
 (.ite (.var 17)
 (.letE ⟨(.idx 4), [(.fld (.var 1) 1), (.var 15)]⟩
 (.letE ⟨(.cells 0 4), [(.var 18)]⟩
 (.letE ⟨(.all 4), [(.var 19)]⟩
 (.call 55 [(.fld (.var 20) 0)] 1
 (.letE ⟨(.un .not), [(.var 21)]⟩
 (.ite (.var 22)
 (.ret [(.bool false)])
 (.call 56 [(.fld (.var 20) 1)] 1
 (.letE ⟨(.un .not), [(.var 23)]⟩
 (.ite (.var 24)
 (.ret [(.bool false)])
 (.letE ⟨(.bin .lss 3), [(.fld (.var 20) 2), (.int .i64 (1))]⟩
 (.ite (.var 25)
 (.ret [(.bool false)])
 (.letE ⟨(.bin .gtr 3), [(.fld (.var 20) 2), (.fld (.var 1) 0)]⟩
 (.ite (.var 26)
 (.ret [(.bool false)])
 (.letE ⟨(.bin .neq 3), [(.fld (.var 20) 3), (.int .i64 (0))]⟩
 (.ite (.var 27)
 (.letE ⟨.mk, [(.fld (.var 1) 0), (.fld (.var 1) 1), (.fld (.var 1) 2), (.fld (.var 1) 3), (.fld (.var 1) 4), (.fld (.var 1) 5)]⟩
 (.call 57 [(.var 28), (.fld (.var 20) 3)] 1
 (.letE ⟨(.bin .lss 3), [(.var 29), (.int .i64 (0))]⟩
 (.ite (.var 30)
 (.ret [(.bool false)])
 (.letE ⟨(.bin .gtr 3), [(.var 15), (.int .i64 (0))]⟩
 (.ite (.var 31)
 (.letE ⟨(.bin .sub 3), [(.var 15), (.int .i64 (1))]⟩
 (.letE ⟨(.idx 4), [(.fld (.var 1) 1), (.var 32)]⟩
 (.letE ⟨.a, [(.fld (.var 33) 0)]⟩
 (.letE ⟨.text, [(.var 34)]⟩
 (.letE ⟨.text, [(.fld (.var 20) 0)]⟩
 (.letE ⟨(.bin .geq 9), [(.var 35), (.var 36)]⟩
 (.ite (.var 37)
 (.ret [(.bool false)])
 (.letE ⟨(.bin .add 3), [(.var 15), (.int .i64 (1))]⟩
 (.jump 0 [(.var 14), (.var 38)])))))))))
 (.letE ⟨(.bin .add 3), [(.var 15), (.int .i64 (1))]⟩
 (.jump 0 [(.var 14), (.var 32)]))))))))
 (.letE ⟨(.bin .gtr 3), [(.var 15), (.int .i64 (0))]⟩
 (.ite (.var 28)
 (.letE ⟨(.bin .sub 3), [(.var 15), (.int .i64 (1))]⟩
 (.letE ⟨(.idx 4), [(.fld (.var 1) 1), (.var 29)]⟩
 (.letE ⟨.a, [(.fld (.var 30) 0)]⟩
 (.letE ⟨.text, [(.var 31)]⟩
 (.letE ⟨.text, [(.fld (.var 20) 0)]⟩
 (.letE ⟨(.bin .geq 9), [(.var 32), (.var 33)]⟩
 (.ite (.var 34)
 (.ret [(.bool false)])
 (.letE ⟨(.bin .add 3), [(.var 15), (.int .i64 (1))]⟩
 (.jump 0 [(.var 14), (.var 35)])))))))))
 (.letE ⟨(.bin .add 3), [(.var 15), (.int .i64 (1))]⟩
 (.jump 0 [(.var 14), (.var 29)])))))))))))))))))))
 (.label true
 (.letE ⟨.len, [(.fld (.var 1) 2)]⟩
 (.letE ⟨(.bin .lss 3), [(.var 19), (.var 20)]⟩
 (.ite (.var 21)
 (.letE ⟨(.idx 2), [(.fld (.var 1) 2), (.var 19)]⟩
 (.letE ⟨(.cells 0 2), [(.var 22)]⟩
 (.letE ⟨(.all 2), [(.var 23)]⟩
 (.call 55 [(.fld (.var 24) 0)] 1
 (.letE ⟨(.un .not), [(.var 25)]⟩
 (.ite (.var 26)
 (.ret [(.bool false)])
 (.letE ⟨.mk, [(.fld (.var 1) 0), (.fld (.var 1) 1), (.fld (.var 1) 2), (.fld (.var 1) 3), (.fld (.var 1) 4), (.fld (.var 1) 5)]⟩
 (.call 58 [(.var 27), (.fld (.var 24) 0)] 1
 (.letE ⟨(.bin .geq 3), [(.var 28), (.int .i64 (0))]⟩
 (.ite (.var 29)
 (.ret [(.bool false)])
 (.letE ⟨.mk, [(.fld (.var 1) 0), (.fld (.var 1) 1), (.fld (.var 1) 2), (.fld (.var 1) 3), (.fld (.var 1) 4), (.fld (.var 1) 5)]⟩
 (.call 59 [(.var 30), (.fld (.var 24) 0)] 1
 (.letE ⟨(.bin .neq 3), [(.var 31), (.var 19)]⟩
 (.ite (.var 32)
 (.ret [(.bool false)])
 (.letE ⟨(.bin .lss 3), [(.fld (.var 24) 1), (.int .i64 (1))]⟩
 (.ite (.var 33)
 (.ret [(.bool false)])
 (.letE ⟨(.bin .gtr 3), [(.fld (.var 24) 1), (.fld (.var 1) 0)]⟩
 (.ite (.var 34)
 (.ret [(.bool false)])
 (.letE ⟨(.bin .lss 3), [(.fld (.var 24) 1), (.fld (.var 1) 3)]⟩
 (.ite (.var 35)
 (.ret [(.bool false)])
 (.letE ⟨(.bin .gtr 3), [(.var 19), (.int .i64 (0))]⟩
 (.ite (.var 36)
 (.letE ⟨(.bin .sub 3), [(.var 19), (.int .i64 (1))]⟩
 (.letE ⟨(.idx 2), [(.fld (.var 1) 2), (.var 37)]⟩
 (.letE ⟨.a, [(.fld (.var 38) 1)]⟩
 (.letE ⟨(.bin .gtr 3), [(.var 39), (.fld (.var 24) 1)]⟩
 (.ite (.var 40)
 (.ret [(.bool false)])
 (.letE ⟨(.bin .add 3), [(.var 19), (.int .i64 (1))]⟩
 (.jump 1 [(.var 18), (.var 41)])))))))
 (.letE ⟨(.bin .add 3), [(.var 19), (.int .i64 (1))]⟩
 (.jump 1 [(.var 18), (.var 37)]))))))))))))))))))))))))
 (.label true
 (.letE ⟨.len, [(.fld (.var 1) 4)]⟩
 (.letE ⟨(.bin .lss 3), [(.var 23), (.var 24)]⟩
 (.ite (.var 25)
 (.letE ⟨(.idx 2), [(.fld (.var 1) 4), (.var 23)]⟩
 (.letE ⟨.a, [(.fld (.var 26) 0)]⟩
 (.letE ⟨(.bin .lss 3), [(.var 27), (.int .i64 (1))]⟩
 (.ite (.var 28)
 (.ret [(.bool false)])
 (.letE ⟨(.idx 2), [(.fld (.var 1) 4), (.var 23)]⟩
 (.letE ⟨.a, [(.fld (.var 29) 0)]⟩
 (.letE ⟨(.bin .gtr 3), [(.var 30), (.fld (.var 1) 0)]⟩
 (.ite (.var 31)
 (.ret [(.bool false)])
 (.letE ⟨(.bin .gtr 3), [(.var 23), (.int .i64 (0))]⟩
 (.ite (.var 32)
 (.letE ⟨(.bin .sub 3), [(.var 23), (.int .i64 (1))]⟩
 (.letE ⟨(.idx 2), [(.fld (.var 1) 4), (.var 33)]⟩
 (.letE ⟨.a, [(.fld (.var 34) 0)]⟩
 (.letE ⟨(.idx 2), [(.fld (.var 1) 4), (.var 23)]⟩
 (.letE ⟨.a, [(.fld (.var 36) 0)]⟩
 (.letE ⟨(.bin .geq 3), [(.var 35), (.var 37)]⟩
 (.ite (.var 38)
 (.ret [(.bool false)])
 (.letE ⟨(.bin .add 3), [(.var 23), (.int .i64 (1))]⟩
 (.jump 2 [(.var 22), (.var 39)])))))))))
 (.letE ⟨(.bin .add 3), [(.var 23), (.int .i64 (1))]⟩
 (.jump 2 [(.var 22), (.var 33)]))))))))))))
 (.label true
 (.letE ⟨.len, [(.fld (.var 1) 5)]⟩
 (.letE ⟨(.bin .lss 3), [(.var 27), (.var 28)]⟩
 (.ite (.var 29)
 (.letE ⟨(.idx 4), [(.fld (.var 1) 5), (.var 27)]⟩
 (.letE ⟨(.cells 0 4), [(.var 30)]⟩
 (.letE ⟨(.all 4), [(.var 31)]⟩
 (.letE ⟨(.bin .lss 3), [(.fld (.var 32) 0), (.int .i64 (0))]⟩
 (.ite (.var 33)
 (.ret [(.bool false)])
 (.letE ⟨(.bin .geq 3), [(.fld (.var 32) 0), (.int .i64 (4))]⟩
 (.ite (.var 34)
 (.ret [(.bool false)])
 (.letE ⟨(.bin .lss 3), [(.fld (.var 32) 1), (.int .i64 (1))]⟩
 (.ite (.var 35)
 (.ret [(.bool false)])
 (.letE ⟨(.bin .gtr 3), [(.fld (.var 32) 1), (.int .i64 (1000000))]⟩
 (.ite (.var 36)
 (.ret [(.bool false)])
 (.letE ⟨(.bin .lss 3), [(.fld (.var 32) 2), (.int .i64 (0))]⟩
 (.ite (.var 37)
 (.ret [(.bool false)])
 (.letE ⟨(.bin .gtr 3), [(.fld (.var 32) 2), (.int .i64 (5))]⟩
 (.ite (.var 38)
 (.ret [(.bool false)])
 (.letE ⟨(.bin .lss 3), [(.fld (.var 32) 3), (.int .i64 (1))]⟩
 (.ite (.var 39)
 (.ret [(.bool false)])
 (.letE ⟨(.bin .gtr 3), [(.fld (.var 32) 3), (.fld (.var 1) 0)]⟩
 (.ite (.var 40)
 (.ret [(.bool false)])
 (.letE ⟨(.bin .gtr 3), [(.var 27), (.int .i64 (0))]⟩
 (.ite (.var 41)
 (.letE ⟨(.bin .sub 3), [(.var 27), (.int .i64 (1))]⟩
 (.letE ⟨(.idx 4), [(.fld (.var 1) 5), (.var 42)]⟩
 (.letE ⟨.a, [(.fld (.var 43) 0)]⟩
 (.letE ⟨(.bin .geq 3), [(.var 44), (.fld (.var 32) 0)]⟩
 (.ite (.var 45)
 (.ret [(.bool false)])
 (.letE ⟨(.bin .add 3), [(.var 27), (.int .i64 (1))]⟩
 (.jump 3 [(.var 26), (.var 46)])))))))
 (.letE ⟨(.bin .add 3), [(.var 27), (.int .i64 (1))]⟩
 (.jump 3 [(.var 26), (.var 42)])))))))))))))))))))))))
 (.ret [(.bool true)]))))
 (.jump 3 [(.var 22), (.int .i64 (0))])))))
 (.jump 2 [(.var 18), (.int .i64 (0))])))))
 (.jump 1 [(.var 14), (.int .i64 (0))])))))
 (.jump 0 [(.bool false), (.int .i64 (0))]))))))))))))))))))))))
/- loop.example/g00365/spec.GetNum -/
def sg146 : Sig := ⟨[.val, .val], [((.int .i64), .sh), ((.int .i64), .sh)], false, none, false⟩
def hi146 : Hints := [((0, 5), ⟨[(6, .sh), (7, .sh), (4, .sh), (5, .sh), (8, .sh)], [], []⟩)]
def ir146 : IR := (.letE ⟨(.bin .lss 3), [(.var 1), (.int .i64 (0))]⟩
 (.ite (.var 2)
 (.ret [(.int .i64 (0)), (.int .i64 (-1))])
 (.label true
 (.letE ⟨(.bin .lss 3), [(.var 7), (.int .i64 (5))]⟩
 (.ite (.var 8)
 (.letE ⟨.len, [(.var 0)]⟩
 (.letE ⟨(.bin .sub 3), [(.var 9), (.var 1)]⟩
 (.letE ⟨(.bin .lss 3), [(.var 7), (.var 10)]⟩
 (.ite (.var 11)
 (.letE ⟨(.bin .add 3), [(.var 1), (.var 7)]⟩
 (.letE ⟨(.idx 1), [(.var 0), (.var 12)]⟩
 (.letE ⟨.a, [(.fld (.var 13) 0)]⟩
 (.letE ⟨(.conv .i64), [(.var 14)]⟩
 (.letE ⟨(.bin .rem 3), [(.var 15), (.int .i64 (128))]⟩
 (.letE ⟨(.bin .mul 3), [(.var 16), (.var 4)]⟩
 (.letE ⟨(.bin .add 3), [(.var 3), (.var 17)]⟩
 (.letE ⟨(.bin .mul 3), [(.var 4), (.int .i64 (128))]⟩
 (.letE ⟨(.bin .lss 3), [(.var 15), (.int .i64 (128))]⟩
 (.ite (.var 20)
 (.letE ⟨(.bin .eql 3), [(.var 15), (.int .i64 (0))]⟩
 (.ite (.var 21)
 (.letE ⟨(.bin .gtr 3), [(.var 7), (.int .i64 (0))]⟩
 (.ite (.var 22)
 (.ret [(.int .i64 (0)), (.int .i64 (-1))])
 (.letE ⟨(.bin .gtr 3), [(.var 18), (.int .i64 (2147483647))]⟩
 (.ite (.var 23)
 (.ret [(.int .i64 (0)), (.int .i64 (-1))])
 (.letE ⟨(.bin .add 3), [(.var 1), (.var 7)]⟩
 (.letE ⟨(.bin .add 3), [(.var 24), (.int .i64 (1))]⟩
 (.ret [(.var 18), (.var 25)])))))))
 (.letE ⟨(.bin .gtr 3), [(.var 18), (.int .i64 (2147483647))]⟩
 (.ite (.var 22)
 (.ret [(.int .i64 (0)), (.int .i64 (-1))])
 (.letE ⟨(.bin .add 3), [(.var 1), (.var 7)]⟩
 (.letE ⟨(.bin .add 3), [(.var 23), (.int .i64 (1))]⟩
 (.ret [(.var 18), (.var 24)])))))))
 (.letE ⟨(.bin .add 3), [(.var 7), (.int .i64 (1))]⟩
 (.jump 0 [(.var 18), (.var 19), (.var 5), (.var 6), (.var 21)]))))))))))))
 (.ret [(.int .i64 (0)), (.int .i64 (-1))])))))
 (.ret [(.int .i64 (0)), (.int .i64 (-1))])))
 (.jump 0 [(.int .i64 (0)), (.int .i64 (1)), (.int .i64 (0)), (.int .i64 (0)), (.int .i64 (0))]))))
/- loop.example/g00365/spec.l3get -/
def sg83 : Sig := ⟨[], [((.int .i64), .sh)], false, some (0, .box (.pair (.sl (.int .u8)) (.pair (.int .i64) .unit)) .sh .sh), false⟩
def hi83 : Hints := []
def ir83 : IR := (.letE ⟨(.bin .lss 3), [(.fld (.var 0) 1), (.int .i64 (0))]⟩
 (.ite (.var 1)
 (.letE ⟨.mk, [(.fld (.var 0) 0), (.fld (.var 0) 1)]⟩
 (.ret [(.int .i64 (0)), (.var 2)]))
 (.call 146 [(.fld (.var 0) 0), (.fld (.var 0) 1)] 2
 (.letE ⟨.atom, [(.var 3)]⟩
 (.letE ⟨.mk, [(.fld (.var 0) 0), (.var 4)]⟩
 (.ret [(.var 2), (.var 5)]))))))
/- loop.example/g00365/laws.toByteS -/
def sg10 : Sig := ⟨[.val], [((.sl (.int .u8)), (.own .sh))], true, none, false⟩
def hi10 : Hints := [((0, 3), ⟨[(4, .sh), (2, (.own .sh)), (3, (.own .sh))], [], []⟩)]
def ir10 : IR := (.letE ⟨.len, [(.var 0)]⟩
 (.letE ⟨(.rep (.int .u8)), [(.var 1), (.int .u8 (0))]⟩
 (.label true
 (.letE ⟨.len, [(.var 0)]⟩
 (.letE ⟨(.bin .lss 3), [(.var 3), (.var 6)]⟩
 (.ite (.var 7)
 (.letE ⟨(.idx 1), [(.var 0), (.var 3)]⟩
 (.letE ⟨.a, [(.fld (.var 8) 0)]⟩
 (.letE ⟨(.idx 1), [(.var 5), (.var 3)]⟩
 (.letE ⟨(.setE 1), [(.var 5), (.var 3), (.var 9)]⟩
 (.letE ⟨(.bin .add 3), [(.var 3), (.int .i64 (1))]⟩
 (.jump 0 [(.var 12), (.var 4), (.var 11)]))))))
 (.ret [(.var 5)]))))
 (.jump 0 [(.int .i64 (0)), (.nil (.int .u8)), (.var 2)]))))
/- loop.example/g00365/laws.heldTombS -/
def sg94 : Sig := ⟨[.val, .val], [((.int .i64), .sh)], true, none, false⟩
def hi94 : Hints := [((0, 2), ⟨[(1, .sh), (4, .sh), (5, .sh)], [], []⟩)]
def ir94 : IR := (.label true
 (.letE ⟨.len, [(.var 0)]⟩
 (.letE ⟨(.bin .lss 3), [(.var 4), (.var 5)]⟩
 (.ite (.var 6)
 (.letE ⟨(.idx 2), [(.var 0), (.var 4)]⟩
 (.letE ⟨.a, [(.fld (.var 7) 0)]⟩
 (.call 49 [(.var 8), (.var 2)] 1
 (.letE ⟨(.bin .lss 3), [(.var 9), (.int .i64 (0))]⟩
 (.ite (.var 10)
 (.ret [(.int .i64 (-1))])
 (.letE ⟨(.idx 2), [(.var 0), (.var 4)]⟩
 (.letE ⟨.a, [(.fld (.var 11) 1)]⟩
 (.letE ⟨(.bin .neq 3), [(.var 12), (.var 9)]⟩
 (.ite (.var 13)
 (.ret [(.int .i64 (-1))])
 (.letE ⟨(.bin .add 3), [(.var 9), (.int .i64 (1))]⟩
 (.letE ⟨(.bin .add 3), [(.var 4), (.int .i64 (1))]⟩
 (.jump 0 [(.var 14), (.var 3), (.var 15)]))))))))))))
 (.ret [(.var 2)]))))
 (.jump 0 [(.var 1), (.int .i64 (0)), (.int .i64 (0))]))
/- loop.example/g00365/laws.heldState -/
def sg33 : Sig := ⟨[.val, .val], [((.int .i64), .sh)], true, none, false⟩
def hi33 : Hints := []
def ir33 : IR := (.letE ⟨(.all 6), [(.var 0)]⟩
 (.call 93 [(.fld (.var 2) 1), (.var 1)] 1
 (.letE ⟨(.bin .lss 3), [(.var 3), (.int .i64 (0))]⟩
 (.ite (.var 4)
 (.ret [(.int .i64 (-1))])
 (.call 94 [(.fld (.var 2) 2), (.var 3)] 1
 (.letE ⟨(.bin .lss 3), [(.var 5), (.int .i64 (0))]⟩
 (.ite (.var 6)
 (.ret [(.int .i64 (-1))])
 (.call 95 [(.fld (.var 2) 4), (.var 5)] 1
 (.letE ⟨(.bin .lss 3), [(.var 7), (.int .i64 (0))]⟩
 (.ite (.var 8)
 (.ret [(.int .i64 (-1))])
 (.call 96 [(.fld (.var 2) 5), (.var 7)] 1
 (.letE ⟨(.bin .lss 3), [(.var 9), (.int .i64 (0))]⟩
 (.ite (.var 10)
 (.ret [(.int .i64 (-1))])
 (.ret [(.var 9)]))))))))))))))
/- loop.example/g00365/laws.markTombS -/
def sg90 : Sig := ⟨[.val], [((.int .i64), .sh)], true, some (0, .row (.sl (.pair (.sl (.int .u8)) (.pair (.int .i64) .unit)))), false⟩
def hi90 : Hints := [((0, 2), ⟨[(1, .sh), (5, .sh), (0, (.own (.pair (.own .sh) .sh)))], [], []⟩)]
def ir90 : IR := (.label true
 (.letE ⟨.len, [(.var 4)]⟩
 (.letE ⟨(.bin .lss 3), [(.var 3), (.var 5)]⟩
 (.ite (.var 6)
 (.letE ⟨(.idx 2), [(.var 4), (.var 3)]⟩
 (.letE ⟨(.idx 2), [(.var 4), (.var 3)]⟩
 (.letE ⟨.a, [(.fld (.var 8) 0)]⟩
 (.letE ⟨(.idx 2), [(.var 4), (.var 3)]⟩
 (.call 15 [(.var 2), (.fld (.var 10) 0)] 2
 (.letE ⟨(.set 2 0 1), [(.var 4), (.var 3), (.var 12)]⟩
 (.letE ⟨(.idx 2), [(.var 13), (.var 3)]⟩
 (.letE ⟨(.set 2 1 1), [(.var 13), (.var 3), (.var 11)]⟩
 (.letE ⟨(.bin .add 3), [(.var 11), (.int .i64 (1))]⟩
 (.letE ⟨(.bin .add 3), [(.var 3), (.int .i64 (1))]⟩
 (.jump 0 [(.var 16), (.var 17), (.var 15)])))))))))))
 (.ret [(.var 2), (.var 4)]))))
 (.jump 0 [(.var 0), (.int .i64 (0)), (.var 1)]))
/- loop.example/g00365/laws.markRowS -/
def sg89 : Sig := ⟨[.val], [((.int .i64), .sh)], true, some (0, .row (.sl (.pair (.sl (.int .u8)) (.pair (.sl (.int .u8)) (.pair (.int .i64) (.pair (.int .i64) .unit)))))), false⟩
def hi89 : Hints := [((0, 2), ⟨[(1, .sh), (5, .sh), (0, (.own (.pair (.own .sh) (.pair (.own .sh) .sh))))], [], []⟩)]
def ir89 : IR := (.label true
 (.letE ⟨.len, [(.var 4)]⟩
 (.letE ⟨(.bin .lss 3), [(.var 3), (.var 5)]⟩
 (.ite (.var 6)
 (.letE ⟨(.idx 4), [(.var 4), (.var 3)]⟩
 (.letE ⟨(.idx 4), [(.var 4), (.var 3)]⟩
 (.letE ⟨.a, [(.fld (.var 8) 0)]⟩
 (.letE ⟨(.idx 4), [(.var 4), (.var 3)]⟩
 (.call 15 [(.var 2), (.fld (.var 10) 0)] 2
 (.letE ⟨(.set 4 0 1), [(.var 4), (.var 3), (.var 12)]⟩
 (.letE ⟨(.idx 4), [(.var 13), (.var 3)]⟩
 (.letE ⟨(.idx 4), [(.var 13), (.var 3)]⟩
 (.letE ⟨.a, [(.fld (.var 15) 1)]⟩
 (.letE ⟨(.idx 4), [(.var 13), (.var 3)]⟩
 (.call 15 [(.var 11), (.fld (.var 17) 1)] 2
 (.letE ⟨(.set 4 1 1), [(.var 13), (.var 3), (.var 19)]⟩
 (.letE ⟨(.idx 4), [(.var 20), (.var 3)]⟩
 (.letE ⟨(.set 4 2 1), [(.var 20), (.var 3), (.var 18)]⟩
 (.letE ⟨(.bin .add 3), [(.var 18), (.int .i64 (1))]⟩
 (.letE ⟨(.idx 4), [(.var 22), (.var 3)]⟩
 (.letE ⟨(.set 4 3 1), [(.var 22), (.var 3), (.var 23)]⟩
 (.letE ⟨(.bin .add 3), [(.var 23), (.int .i64 (1))]⟩
 (.letE ⟨(.bin .add 3), [(.var 3), (.int .i64 (1))]⟩
 (.jump 0 [(.var 26), (.var 27), (.var 25)]))))))))))))))))))))
 (.ret [(.var 2), (.var 4)]))))
 (.jump 0 [(.var 0), (.int .i64 (0)), (.var 1)]))
/- loop.example/g00365/laws.markState -/
def sg32 : Sig := ⟨[.val], [((.int .i64), .sh)], true, some (0, .row (.pair (.int .i64) (.pair (.sl (.pair (.sl (.int .u8)) (.pair (.sl (.int .u8)) (.pair (.int .i64) (.pair (.int .i64) .unit))))) (.pair (.sl (.pair (.sl (.int .u8)) (.pair (.int .i64) .unit))) (.pair (.int .i64) (.pair (.sl (.pair (.int .i64) (.pair .bool .unit))) (.pair (.sl (.pair (.int .i64) (.pair (.int .i64) (.pair (.int .i64) (.pair (.int .i64) .unit))))) .unit))))))), false⟩
def hi32 : Hints := []
def ir32 : IR := (.letE ⟨(.all 6), [(.var 1)]⟩
 (.letE ⟨.len, [(.fld (.var 2) 1)]⟩
 (.call 89 [(.var 0), (.fld (.var 2) 1)] 2
 (.letE ⟨.len, [(.fld (.var 2) 2)]⟩
 (.call 90 [(.var 4), (.fld (.var 2) 2)] 2
 (.letE ⟨.len, [(.fld (.var 2) 4)]⟩
 (.call 91 [(.var 7), (.fld (.var 2) 4)] 2
 (.letE ⟨.len, [(.fld (.var 2) 5)]⟩
 (.call 92 [(.var 10), (.fld (.var 2) 5)] 2
 (.letE ⟨.mk, [(.fld (.var 2) 0), (.var 5), (.var 8), (.fld (.var 2) 3), (.var 11), (.var 14)]⟩
 (.ret [(.var 13), (.var 15)])))))))))))
/- loop.example/g00365/laws.eqTomb -/
def sg149 : Sig := ⟨[.val, .val], [(.bool, .sh)], true, none, false⟩
def hi149 : Hints := []
def ir149 : IR := (.letE ⟨(.all 2), [(.var 0)]⟩
 (.letE ⟨(.all 2), [(.var 1)]⟩
 (.call 13 [(.fld (.var 2) 0), (.fld (.var 3) 0)] 1
 (.letE ⟨(.un .not), [(.var 4)]⟩
 (.ite (.var 5)
 (.ret [(.bool false)])
 (.letE ⟨(.bin .neq 3), [(.fld (.var 2) 1), (.fld (.var 3) 1)]⟩
 (.ite (.var 6)
 (.ret [(.bool false)])
 (.ret [(.bool true)]))))))))
/- loop.example/g00365/laws.eqTombS -/
def sg86 : Sig := ⟨[.val, .val], [(.bool, .sh)], true, none, false⟩
def hi86 : Hints := [((0, 4), ⟨[(4, .sh), (5, .sh)], [], []⟩)]
def ir86 : IR := (.letE ⟨.len, [(.var 0)]⟩
 (.letE ⟨.len, [(.var 1)]⟩
 (.letE ⟨(.bin .neq 3), [(.var 2), (.var 3)]⟩
 (.ite (.var 4)
 (.ret [(.bool false)])
 (.label true
 (.letE ⟨.len, [(.var 0)]⟩
 (.letE ⟨(.bin .lss 3), [(.var 6), (.var 7)]⟩
 (.ite (.var 8)
 (.letE ⟨(.idx 2), [(.var 0), (.var 6)]⟩
 (.letE ⟨(.cells 0 2), [(.var 9)]⟩
 (.letE ⟨(.idx 2), [(.var 1), (.var 6)]⟩
 (.letE ⟨(.cells 0 2), [(.var 11)]⟩
 (.call 149 [(.var 10), (.var 12)] 1
 (.letE ⟨(.un .not), [(.var 13)]⟩
 (.ite (.var 14)
 (.ret [(.bool false)])
 (.letE ⟨(.bin .add 3), [(.var 6), (.int .i64 (1))]⟩
 (.jump 0 [(.var 5), (.var 15)])))))))))
 (.ret [(.bool true)]))))
 (.jump 0 [(.bool false), (.int .i64 (0))]))))))
/- loop.example/g00365/laws.eqState -/
def sg31 : Sig := ⟨[.val, .val], [(.bool, .sh)], true, none, false⟩
def hi31 : Hints := []
def ir31 : IR := (.letE ⟨(.all 6), [(.var 0)]⟩
 (.letE ⟨(.all 6), [(.var 1)]⟩
 (.letE ⟨(.bin .neq 3), [(.fld (.var 2) 0), (.fld (.var 3) 0)]⟩
 (.ite (.var 4)
 (.ret [(.bool false)])
 (.call 85 [(.fld (.var 2) 1), (.fld (.var 3) 1)] 1
 (.letE ⟨(.un .not), [(.var 5)]⟩
 (.ite (.var 6)
 (.ret [(.bool false)])
 (.call 86 [(.fld (.var 2) 2), (.fld (.var 3) 2)] 1
 (.letE ⟨(.un .not), [(.var 7)]⟩
 (.ite (.var 8)
 (.ret [(.bool false)])
 (.letE ⟨(.bin .neq 3), [(.fld (.var 2) 3), (.fld (.var 3) 3)]⟩
 (.ite (.var 9)
 (.ret [(.bool false)])
 (.call 87 [(.fld (.var 2) 4), (.fld (.var 3) 4)] 1
 (.letE ⟨(.un .not), [(.var 10)]⟩
 (.ite (.var 11)
 (.ret [(.bool false)])
 (.call 88 [(.fld (.var 2) 5), (.fld (.var 3) 5)] 1
 (.letE ⟨(.un .not), [(.var 12)]⟩
 (.ite (.var 13)
 (.ret [(.bool false)])
 (.ret [(.bool true)])))))))))))))))))))
/- loop.example/g00365/impl.putText -/
def sg113 : Sig := ⟨[.val], [((.sl (.int .u8)), (.own .sh))], true, some (0, .mov (.sl (.int .u8)) (.own .sh)), false⟩
def hi113 : Hints := []
def ir113 : IR := (.letE ⟨.len, [(.var 0)]⟩
 (.call 112 [(.var 2), (.var 1)] 1
 (.letE ⟨(.app (.int .u8)), [(.var 3), (.var 0)]⟩
 (.ret [(.var 4)]))))
/- loop.example/g00365/impl.stateBytes -/
def sg53 : Sig := ⟨[.val], [((.sl (.int .u8)), (.own .sh))], true, none, false⟩
def hi53 : Hints := [((0, 25), ⟨[(100, .sh), (2, (.own .sh))], [((1, 0), .sh), ((1, 1), .sh), ((1, 2), .sh), ((1, 3), .sh), ((1, 4), .sh), ((1, 5), .sh), ((3, 0), (.own .sh))], []⟩), ((0, 19), ⟨[(78, .sh), (2, (.own .sh))], [((1, 0), .sh), ((1, 1), .sh), ((1, 2), .sh), ((1, 3), .sh), ((1, 4), .sh), ((1, 5), .sh), ((3, 0), (.own .sh))], []⟩), ((0, 12), ⟨[(55, .sh), (2, (.own .sh))], [((1, 0), .sh), ((1, 1), .sh), ((1, 2), .sh), ((1, 3), .sh), ((1, 4), .sh), ((1, 5), .sh), ((3, 0), (.own .sh))], []⟩), ((0, 5), ⟨[(27, .sh), (2, (.own .sh))], [((1, 0), .sh), ((1, 1), .sh), ((1, 2), .sh), ((1, 3), .sh), ((1, 4), .sh), ((1, 5), .sh), ((3, 0), (.own .sh))], []⟩)]
def ir53 : IR := (.letE ⟨(.all 6), [(.var 0)]⟩
 (.letE ⟨.len, [(.fld (.var 1) 1)]⟩
 (.letE ⟨(.lst (.int .i64)), [(.fld (.var 1) 0), (.fld (.var 1) 3), (.var 2)]⟩
 (.call 111 [(.var 3), (.nil (.int .u8))] 1
 (.letE ⟨.len, [(.fld (.var 1) 1)]⟩
 (.label true
 (.letE ⟨(.bin .lss 3), [(.var 6), (.var 5)]⟩
 (.ite (.var 15)
 (.letE ⟨(.idx 4), [(.fld (.var 1) 1), (.var 6)]⟩
 (.letE ⟨(.cells 0 4), [(.var 16)]⟩
 (.letE ⟨(.all 4), [(.var 17)]⟩
 (.letE ⟨.len, [(.var 14)]⟩
 (.call 113 [(.fld (.var 18) 0), (.var 14)] 1
 (.call 113 [(.fld (.var 18) 1), (.var 20)] 1
 (.letE ⟨.atom, [(.var 21)]⟩
 (.letE ⟨(.lst (.int .i64)), [(.fld (.var 18) 2), (.fld (.var 18) 3)]⟩
 (.call 111 [(.var 23), (.var 22)] 1
 (.letE ⟨(.bin .add 3), [(.var 6), (.int .i64 (1))]⟩
 (.jump 0 [(.var 25), (.var 7), (.var 8), (.var 9), (.var 10), (.var 11), (.var 12), (.var 13), (.var 24)])))))))))))
 (.letE ⟨.len, [(.var 10)]⟩
 (.letE ⟨(.lst (.int .i64)), [(.var 16)]⟩
 (.call 111 [(.var 17), (.var 14)] 1
 (.letE ⟨.len, [(.var 10)]⟩
 (.label true
 (.letE ⟨(.bin .lss 3), [(.var 20), (.var 19)]⟩
 (.ite (.var 29)
 (.letE ⟨(.idx 2), [(.var 10), (.var 20)]⟩
 (.letE ⟨(.cells 0 2), [(.var 30)]⟩
 (.letE ⟨(.all 2), [(.var 31)]⟩
 (.letE ⟨.len, [(.var 28)]⟩
 (.call 113 [(.fld (.var 32) 0), (.var 28)] 1
 (.letE ⟨.atom, [(.var 34)]⟩
 (.letE ⟨(.lst (.int .i64)), [(.fld (.var 32) 1)]⟩
 (.call 111 [(.var 36), (.var 35)] 1
 (.letE ⟨(.bin .add 3), [(.var 20), (.int .i64 (1))]⟩
 (.jump 1 [(.var 38), (.var 21), (.var 22), (.var 23), (.var 24), (.var 25), (.var 26), (.var 27), (.var 37)]))))))))))
 (.letE ⟨.len, [(.var 26)]⟩
 (.letE ⟨(.lst (.int .i64)), [(.var 30)]⟩
 (.call 111 [(.var 31), (.var 28)] 1
 (.letE ⟨.len, [(.var 26)]⟩
 (.label true
 (.letE ⟨(.bin .lss 3), [(.var 34), (.var 33)]⟩
 (.ite (.var 43)
 (.letE ⟨(.idx 2), [(.var 26), (.var 34)]⟩
 (.letE ⟨(.cells 0 2), [(.var 44)]⟩
 (.letE ⟨(.all 2), [(.var 45)]⟩
 (.call 114 [(.fld (.var 46) 1)] 1
 (.letE ⟨(.lst (.int .i64)), [(.fld (.var 46) 0), (.var 47)]⟩
 (.call 111 [(.var 48), (.var 42)] 1
 (.letE ⟨(.bin .add 3), [(.var 34), (.int .i64 (1))]⟩
 (.jump 2 [(.var 50), (.var 35), (.var 36), (.var 37), (.var 38), (.var 39), (.var 40), (.var 41), (.var 49)]))))))))
 (.letE ⟨.len, [(.var 41)]⟩
 (.letE ⟨(.lst (.int .i64)), [(.var 44)]⟩
 (.call 111 [(.var 45), (.var 42)] 1
 (.letE ⟨.len, [(.var 41)]⟩
 (.label true
 (.letE ⟨(.bin .lss 3), [(.var 48), (.var 47)]⟩
 (.ite (.var 57)
 (.letE ⟨(.idx 4), [(.var 41), (.var 48)]⟩
 (.letE ⟨(.cells 0 4), [(.var 58)]⟩
 (.letE ⟨(.all 4), [(.var 59)]⟩
 (.letE ⟨(.lst (.int .i64)), [(.fld (.var 60) 0), (.fld (.var 60) 1), (.fld (.var 60) 2), (.fld (.var 60) 3)]⟩
 (.call 111 [(.var 61), (.var 56)] 1
 (.letE ⟨(.bin .add 3), [(.var 48), (.int .i64 (1))]⟩
 (.jump 3 [(.var 63), (.var 49), (.var 50), (.var 51), (.var 52), (.var 53), (.var 54), (.var 55), (.var 62)])))))))
 (.letE ⟨.len, [(.var 56)]⟩
 (.ret [(.var 56)]))))
 (.jump 3 [(.int .i64 (0)), (.var 35), (.var 36), (.var 37), (.var 38), (.var 39), (.var 40), (.var 41), (.var 46)]))))))))
 (.jump 2 [(.int .i64 (0)), (.var 21), (.var 22), (.var 23), (.var 24), (.var 25), (.var 26), (.var 27), (.var 32)]))))))))
 (.jump 1 [(.int .i64 (0)), (.var 7), (.var 8), (.var 9), (.var 10), (.var 11), (.var 12), (.var 13), (.var 18)]))))))))
 (.jump 0 [(.int .i64 (0)), (.nil (.int .u8)), (.fld (.var 1) 0), (.fld (.var 1) 1), (.fld (.var 1) 2), (.fld (.var 1) 3), (.fld (.var 1) 4), (.fld (.var 1) 5), (.var 4)])))))))
/- slices.IndexFunc[[]loop.example/g00365/impl.Tomb,loop.example/g00365/impl.Tomb] -/
def sg120 : Sig := ⟨[.val, (.fn 121 1)], [((.int .i64), .sh)], true, none, false⟩
def hi120 : Hints := [((0, 2), ⟨[(4, .sh), (8, .sh)], [], []⟩)]
def ir120 : IR := (.letE ⟨.len, [(.var 0)]⟩
 (.label true
 (.letE ⟨(.bin .lss 3), [(.var 4), (.var 2)]⟩
 (.ite (.var 5)
 (.letE ⟨(.idx 2), [(.var 0), (.var 4)]⟩
 (.letE ⟨(.cells 0 2), [(.var 6)]⟩
 (.call 121 [(.var 7), (.var 1)] 1
 (.ite (.var 8)
 (.ret [(.var 4)])
 (.letE ⟨(.bin .add 3), [(.var 4), (.int .i64 (1))]⟩
 (.jump 0 [(.var 3), (.var 9)]))))))
 (.ret [(.int .i64 (-1))])))
 (.jump 0 [(.int .i64 (0)), (.int .i64 (0))])))
/- (loop.example/g00365/impl.State).tomb -/
def sg65 : Sig := ⟨[.val, .val], [((.int .i64), .sh)], true, none, false⟩
def hi65 : Hints := []
def ir65 : IR := (.letE ⟨(.all 6), [(.var 0)]⟩
 (.letE ⟨(.all 1), [(.var 1)]⟩
 (.call 120 [(.fld (.var 2) 2), (.fld (.var 3) 0)] 1
 (.ret [(.var 4)]))))
/- slices.IndexFunc[[]loop.example/g00365/impl.Session,loop.example/g00365/impl.Session] -/
def sg115 : Sig := ⟨[.val, (.fn 116 1)], [((.int .i64), .sh)], true, none, false⟩
def hi115 : Hints := [((0, 2), ⟨[(4, .sh), (8, .sh)], [], []⟩)]
def ir115 : IR := (.letE ⟨.len, [(.var 0)]⟩
 (.label true
 (.letE ⟨(.bin .lss 3), [(.var 4), (.var 2)]⟩
 (.ite (.var 5)
 (.letE ⟨(.idx 2), [(.var 0), (.var 4)]⟩
 (.letE ⟨(.cells 0 2), [(.var 6)]⟩
 (.call 116 [(.var 7), (.var 1)] 1
 (.ite (.var 8)
 (.ret [(.var 4)])
 (.letE ⟨(.bin .add 3), [(.var 4), (.int .i64 (1))]⟩
 (.jump 0 [(.var 3), (.var 9)]))))))
 (.ret [(.int .i64 (-1))])))
 (.jump 0 [(.int .i64 (0)), (.int .i64 (0))])))
/- (loop.example/g00365/impl.State).session -/
def sg62 : Sig := ⟨[.val, .val], [((.int .i64), .sh)], true, none, false⟩
def hi62 : Hints := []
def ir62 : IR := (.letE ⟨(.all 6), [(.var 0)]⟩
 (.letE ⟨(.all 1), [(.var 1)]⟩
 (.call 115 [(.fld (.var 2) 4), (.fld (.var 3) 0)] 1
 (.ret [(.var 4)]))))
/- loop.example/g00365/impl.KeyOk -/
def sg60 : Sig := ⟨[.val], [(.bool, .sh)], true, none, false⟩
def hi60 : Hints := [((0, 2), ⟨[(2, .sh), (7, .sh)], [], []⟩)]
def ir60 : IR := (.letE ⟨.len, [(.var 0)]⟩
 (.label true
 (.letE ⟨(.bin .lss 3), [(.var 3), (.var 1)]⟩
 (.ite (.var 4)
 (.letE ⟨(.idx 1), [(.var 0), (.var 3)]⟩
 (.letE ⟨.a, [(.fld (.var 5) 0)]⟩
 (.letE ⟨(.bin .lss 5), [(.var 6), (.int .u8 (97))]⟩
 (.ite (.var 7)
 (.letE ⟨(.bin .neq 5), [(.var 6), (.int .u8 (47))]⟩
 (.ite (.var 8)
 (.ret [(.bool false)])
 (.letE ⟨(.bin .add 3), [(.var 3), (.int .i64 (1))]⟩
 (.jump 0 [(.var 2), (.var 9)]))))
 (.letE ⟨(.bin .gtr 5), [(.var 6), (.int .u8 (122))]⟩
 (.ite (.var 8)
 (.letE ⟨(.bin .neq 5), [(.var 6), (.int .u8 (47))]⟩
 (.ite (.var 9)
 (.ret [(.bool false)])
 (.letE ⟨(.bin .add 3), [(.var 3), (.int .i64 (1))]⟩
 (.jump 0 [(.var 2), (.var 10)]))))
 (.letE ⟨(.bin .add 3), [(.var 3), (.int .i64 (1))]⟩
 (.jump 0 [(.var 2), (.var 9)]))))))))
 (.letE ⟨.len, [(.var 0)]⟩
 (.call 41 [(.var 5), (.int .i64 (1)), (.int .i64 (20))] 1
 (.ret [(.var 6)])))))
 (.jump 0 [(.bool false), (.int .i64 (0))])))
/- loop.example/g00365/impl.StateOk -/
def sg20 : Sig := ⟨[.val], [(.bool, .sh)], true, none, false⟩
def hi20 : Hints := [((0, 25), ⟨[(2, .sh), (185, .sh)], [], []⟩), ((0, 19), ⟨[(2, .sh), (154, .sh)], [], []⟩), ((0, 11), ⟨[(2, .sh), (5, .sh), (112, .sh)], [], []⟩), ((0, 4), ⟨[(2, .sh), (53, .sh)], [], []⟩)]
def ir20 : IR := (.letE ⟨(.all 6), [(.var 0)]⟩
 (.call 41 [(.fld (.var 1) 0), (.int .i64 (0)), (.int .i64 (1000000))] 1
 (.letE ⟨(.un .not), [(.var 2)]⟩
 (.ite (.var 3)
 (.ret [(.bool false)])
 (.call 41 [(.fld (.var 1) 3), (.int .i64 (0)), (.fld (.var 1) 0)] 1
 (.letE ⟨(.un .not), [(.var 4)]⟩
 (.ite (.var 5)
 (.ret [(.bool false)])
 (.letE ⟨.len, [(.fld (.var 1) 1)]⟩
 (.letE ⟨(.bin .gtr 3), [(.var 6), (.int .i64 (20))]⟩
 (.ite (.var 7)
 (.ret [(.bool false)])
 (.letE ⟨.len, [(.fld (.var 1) 2)]⟩
 (.letE ⟨(.bin .gtr 3), [(.var 8), (.int .i64 (10))]⟩
 (.ite (.var 9)
 (.ret [(.bool false)])
 (.letE ⟨.len, [(.fld (.var 1) 4)]⟩
 (.letE ⟨(.bin .gtr 3), [(.var 10), (.int .i64 (8))]⟩
 (.ite (.var 11)
 (.ret [(.bool false)])
 (.letE ⟨.len, [(.fld (.var 1) 5)]⟩
 (.letE ⟨(.bin .gtr 3), [(.var 12), (.int .i64 (4))]⟩
 (.ite (.var 13)
 (.ret [(.bool false)])
 (.letE ⟨.len, [(.fld (.var 1) 1)]⟩
 (.label true
 (.letE ⟨(.bin .lss 3), [(.var 16), (.var 14)]⟩
 (.ite (.var 17)
 (.letE ⟨(.idx 4), [(.fld (.var 1) 1), (.var 16)]⟩
 (.letE ⟨(.cells 0 4), [(.var 18)]⟩
 (.letE ⟨(.all 4), [(.var 19)]⟩
 (.call 60 [(.fld (.var 20) 0)] 1
 (.letE ⟨(.un .not), [(.var 21)]⟩
 (.ite (.var 22)
 (.ret [(.bool false)])
 (.call 61 [(.fld (.var 20) 1)] 1
 (.letE ⟨(.un .not), [(.var 23)]⟩
 (.ite (.var 24)
 (.ret [(.bool false)])
 (.call 41 [(.fld (.var 20) 2), (.int .i64 (1)), (.fld (.var 1) 0)] 1
 (.letE ⟨(.un .not), [(.var 25)]⟩
 (.ite (.var 26)
 (.ret [(.bool false)])
 (.letE ⟨(.bin .neq 3), [(.fld (.var 20) 3), (.int .i64 (0))]⟩
 (.ite (.var 27)
 (.letE ⟨.mk, [(.fld (.var 1) 0), (.fld (.var 1) 1), (.fld (.var 1) 2), (.fld (.var 1) 3), (.fld (.var 1) 4), (.fld (.var 1) 5)]⟩
 (.call 62 [(.var 28), (.fld (.var 20) 3)] 1
 (.letE ⟨(.bin .lss 3), [(.var 29), (.int .i64 (0))]⟩
 (.ite (.var 30)
 (.ret [(.bool false)])
 (.letE ⟨(.bin .gtr 3), [(.var 16), (.int .i64 (0))]⟩
 (.ite (.var 31)
 (.letE ⟨(.bin .sub 3), [(.var 16), (.int .i64 (1))]⟩
 (.letE ⟨(.idx 4), [(.fld (.var 1) 1), (.var 32)]⟩
 (.letE ⟨.a, [(.fld (.var 33) 0)]⟩
 (.call 63 [(.var 34), (.fld (.var 20) 0)] 1
 (.letE ⟨(.bin .geq 3), [(.var 35), (.int .i64 (0))]⟩
 (.ite (.var 36)
 (.ret [(.bool false)])
 (.letE ⟨(.bin .add 3), [(.var 16), (.int .i64 (1))]⟩
 (.jump 0 [(.var 15), (.var 37)]))))))))
 (.letE ⟨(.bin .add 3), [(.var 16), (.int .i64 (1))]⟩
 (.jump 0 [(.var 15), (.var 32)]))))))))
 (.letE ⟨(.bin .gtr 3), [(.var 16), (.int .i64 (0))]⟩
 (.ite (.var 28)
 (.letE ⟨(.bin .sub 3), [(.var 16), (.int .i64 (1))]⟩
 (.letE ⟨(.idx 4), [(.fld (.var 1) 1), (.var 29)]⟩
 (.letE ⟨.a, [(.fld (.var 30) 0)]⟩
 (.call 63 [(.var 31), (.fld (.var 20) 0)] 1
 (.letE ⟨(.bin .geq 3), [(.var 32), (.int .i64 (0))]⟩
 (.ite (.var 33)
 (.ret [(.bool false)])
 (.letE ⟨(.bin .add 3), [(.var 16), (.int .i64 (1))]⟩
 (.jump 0 [(.var 15), (.var 34)]))))))))
 (.letE ⟨(.bin .add 3), [(.var 16), (.int .i64 (1))]⟩
 (.jump 0 [(.var 15), (.var 29)]))))))))))))))))))
 (.letE ⟨.mx, [(.int .i64 (1)), (.fld (.var 1) 3)]⟩
 (.letE ⟨.len, [(.fld (.var 1) 2)]⟩
 (.label true
 (.letE ⟨(.bin .lss 3), [(.var 22), (.var 19)]⟩
 (.ite (.var 23)
 (.letE ⟨(.idx 2), [(.fld (.var 1) 2), (.var 22)]⟩
 (.letE ⟨(.cells 0 2), [(.var 24)]⟩
 (.letE ⟨(.all 2), [(.var 25)]⟩
 (.letE ⟨.mk, [(.fld (.var 1) 0), (.fld (.var 1) 1), (.fld (.var 1) 2), (.fld (.var 1) 3), (.fld (.var 1) 4), (.fld (.var 1) 5)]⟩
 (.call 64 [(.var 27), (.fld (.var 26) 0)] 2
 (.ite (.var 29)
 (.ret [(.bool false)])
 (.call 60 [(.fld (.var 26) 0)] 1
 (.letE ⟨(.un .not), [(.var 30)]⟩
 (.ite (.var 31)
 (.ret [(.bool false)])
 (.letE ⟨.mk, [(.fld (.var 1) 0), (.fld (.var 1) 1), (.fld (.var 1) 2), (.fld (.var 1) 3), (.fld (.var 1) 4), (.fld (.var 1) 5)]⟩
 (.call 65 [(.var 32), (.fld (.var 26) 0)] 1
 (.letE ⟨(.bin .neq 3), [(.var 33), (.var 22)]⟩
 (.ite (.var 34)
 (.ret [(.bool false)])
 (.call 41 [(.fld (.var 26) 1), (.var 21), (.fld (.var 1) 0)] 1
 (.letE ⟨(.un .not), [(.var 35)]⟩
 (.ite (.var 36)
 (.ret [(.bool false)])
 (.letE ⟨(.bin .add 3), [(.var 22), (.int .i64 (1))]⟩
 (.jump 1 [(.var 20), (.fld (.var 26) 1), (.var 37)]))))))))))))))))))
 (.letE ⟨.len, [(.fld (.var 1) 4)]⟩
 (.label true
 (.letE ⟨(.bin .lss 3), [(.var 26), (.var 24)]⟩
 (.ite (.var 27)
 (.letE ⟨(.idx 2), [(.fld (.var 1) 4), (.var 26)]⟩
 (.letE ⟨(.cells 0 2), [(.var 28)]⟩
 (.letE ⟨(.all 2), [(.var 29)]⟩
 (.call 41 [(.fld (.var 30) 0), (.int .i64 (1)), (.fld (.var 1) 0)] 1
 (.letE ⟨(.un .not), [(.var 31)]⟩
 (.ite (.var 32)
 (.ret [(.bool false)])
 (.letE ⟨(.bin .gtr 3), [(.var 26), (.int .i64 (0))]⟩
 (.ite (.var 33)
 (.letE ⟨(.bin .sub 3), [(.var 26), (.int .i64 (1))]⟩
 (.letE ⟨(.idx 2), [(.fld (.var 1) 4), (.var 34)]⟩
 (.letE ⟨.a, [(.fld (.var 35) 0)]⟩
 (.letE ⟨(.bin .geq 3), [(.var 36), (.fld (.var 30) 0)]⟩
 (.ite (.var 37)
 (.ret [(.bool false)])
 (.letE ⟨(.bin .add 3), [(.var 26), (.int .i64 (1))]⟩
 (.jump 2 [(.var 25), (.var 38)])))))))
 (.letE ⟨(.bin .add 3), [(.var 26), (.int .i64 (1))]⟩
 (.jump 2 [(.var 25), (.var 34)]))))))))))
 (.letE ⟨.len, [(.fld (.var 1) 5)]⟩
 (.label true
 (.letE ⟨(.bin .lss 3), [(.var 30), (.var 28)]⟩
 (.ite (.var 31)
 (.letE ⟨(.idx 4), [(.fld (.var 1) 5), (.var 30)]⟩
 (.letE ⟨(.cells 0 4), [(.var 32)]⟩
 (.letE ⟨(.all 4), [(.var 33)]⟩
 (.call 41 [(.fld (.var 34) 0), (.int .i64 (0)), (.int .i64 (3))] 1
 (.letE ⟨(.un .not), [(.var 35)]⟩
 (.ite (.var 36)
 (.ret [(.bool false)])
 (.call 41 [(.fld (.var 34) 1), (.int .i64 (1)), (.int .i64 (1000000))] 1
 (.letE ⟨(.un .not), [(.var 37)]⟩
 (.ite (.var 38)
 (.ret [(.bool false)])
 (.call 41 [(.fld (.var 34) 2), (.int .i64 (0)), (.int .i64 (5))] 1
 (.letE ⟨(.un .not), [(.var 39)]⟩
 (.ite (.var 40)
 (.ret [(.bool false)])
 (.call 41 [(.fld (.var 34) 3), (.int .i64 (1)), (.fld (.var 1) 0)] 1
 (.letE ⟨(.un .not), [(.var 41)]⟩
 (.ite (.var 42)
 (.ret [(.bool false)])
 (.letE ⟨(.bin .gtr 3), [(.var 30), (.int .i64 (0))]⟩
 (.ite (.var 43)
 (.letE ⟨(.bin .sub 3), [(.var 30), (.int .i64 (1))]⟩
 (.letE ⟨(.idx 4), [(.fld (.var 1) 5), (.var 44)]⟩
 (.letE ⟨.a, [(.fld (.var 45) 0)]⟩
 (.letE ⟨(.bin .geq 3), [(.var 46), (.fld (.var 34) 0)]⟩
 (.ite (.var 47)
 (.ret [(.bool false)])
 (.letE ⟨(.bin .add 3), [(.var 30), (.int .i64 (1))]⟩
 (.jump 3 [(.var 29), (.var 48)])))))))
 (.letE ⟨(.bin .add 3), [(.var 30), (.int .i64 (1))]⟩
 (.jump 3 [(.var 29), (.var 44)])))))))))))))))))))
 (.ret [(.bool true)])))
 (.jump 3 [(.var 25), (.int .i64 (0))])))))
 (.jump 2 [(.var 20), (.int .i64 (0))])))))
 (.jump 1 [(.var 15), (.var 18), (.int .i64 (0))]))))))
 (.jump 0 [(.bool false), (.int .i64 (0))]))))))))))))))))))))))
/- loop.example/g00365/impl.GetText -/
def sg123 : Sig := ⟨[.val, .val], [((.sl (.int .u8)), (.own .sh)), ((.int .i64), .sh)], true, none, false⟩
def hi123 : Hints := []
def ir123 : IR := (.call 122 [(.var 0), (.var 1)] 2
 (.letE ⟨(.bin .lss 3), [(.var 3), (.int .i64 (0))]⟩
 (.ite (.var 4)
 (.ret [(.nil (.int .u8)), (.int .i64 (-1))])
 (.letE ⟨(.bin .gtr 3), [(.var 2), (.int .i64 (20))]⟩
 (.ite (.var 5)
 (.ret [(.nil (.int .u8)), (.int .i64 (-1))])
 (.letE ⟨.len, [(.var 0)]⟩
 (.letE ⟨(.bin .sub 3), [(.var 6), (.var 3)]⟩
 (.letE ⟨(.bin .gtr 3), [(.var 2), (.var 7)]⟩
 (.ite (.var 8)
 (.ret [(.nil (.int .u8)), (.int .i64 (-1))])
 (.letE ⟨(.bin .add 3), [(.var 3), (.var 2)]⟩
 (.letE ⟨(.sub 1 true true), [(.var 0), (.var 3), (.var 9)]⟩
 (.call 107 [(.var 10)] 1
 (.letE ⟨(.bin .add 3), [(.var 3), (.var 2)]⟩
 (.ret [(.var 11), (.var 12)]))))))))))))))
/- (*loop.example/g00365/impl.taker).text -/
def sg68 : Sig := ⟨[], [((.sl (.int .u8)), (.own .sh))], true, some (0, .box (.pair (.sl (.int .u8)) (.pair (.int .i64) .unit)) .sh .sh), false⟩
def hi68 : Hints := []
def ir68 : IR := (.call 123 [(.fld (.var 0) 0), (.fld (.var 0) 1)] 2
 (.letE ⟨.atom, [(.var 2)]⟩
 (.letE ⟨.mk, [(.fld (.var 0) 0), (.var 3)]⟩
 (.ret [(.var 1), (.var 4)]))))
/- (*loop.example/g00365/impl.taker).count -/
def sg67 : Sig := ⟨[.val], [((.int .i64), .sh)], true, some (0, .box (.pair (.sl (.int .u8)) (.pair (.int .i64) .unit)) .sh .sh), false⟩
def hi67 : Hints := []
def ir67 : IR := (.letE ⟨.mk, [(.fld (.var 1) 0), (.fld (.var 1) 1)]⟩
 (.call 66 [(.var 2)] 2
 (.letE ⟨(.bin .gtr 3), [(.var 3), (.var 0)]⟩
 (.ite (.var 5)
 (.letE ⟨.atom, [(.int .i64 (-1))]⟩
 (.letE ⟨.mk, [(.fld (.var 4) 0), (.var 6)]⟩
 (.ret [(.int .i64 (0)), (.var 7)])))
 (.letE ⟨.mk, [(.fld (.var 4) 0), (.fld (.var 4) 1)]⟩
 (.ret [(.var 3), (.var 6)]))))))
/- loop.example/g00365/impl.StateRead -/
def sg21 : Sig := ⟨[.val], [((.pair (.int .i64) (.pair (.sl (.pair (.sl (.int .u8)) (.pair (.sl (.int .u8)) (.pair (.int .i64) (.pair (.int .i64) .unit))))) (.pair (.sl (.pair (.sl (.int .u8)) (.pair (.int .i64) .unit))) (.pair (.int .i64) (.pair (.sl (.pair (.int .i64) (.pair .bool .unit))) (.pair (.sl (.pair (.int .i64) (.pair (.int .i64) (.pair (.int .i64) (.pair (.int .i64) .unit))))) .unit)))))), (.pair .sh (.pair (.own (.pair (.own .sh) (.pair (.own .sh) .sh))) (.pair (.own (.pair (.own .sh) .sh)) (.pair .sh (.pair (.own .sh) (.pair (.own .sh) .sh))))))), (.bool, .sh)], true, none, false⟩
def hi21 : Hints := [((1, 20), ⟨[(101, .sh)], [], [92, 93, 94, 95, 96, 97, 98, 99, 100]⟩), ((0, 16), ⟨[(9, .sh)], [((2, 0), .sh), ((2, 1), (.own (.pair (.own .sh) (.pair (.own .sh) .sh)))), ((2, 2), (.own (.pair (.own .sh) .sh))), ((2, 3), .sh), ((2, 4), (.own .sh)), ((2, 5), (.own .sh)), ((5, 0), .sh), ((5, 1), (.own (.pair (.own .sh) (.pair (.own .sh) .sh)))), ((5, 2), (.own (.pair (.own .sh) .sh))), ((5, 3), .sh), ((5, 4), (.own .sh)), ((5, 5), (.own .sh)), ((12, 0), .sh), ((12, 1), .sh)], []⟩), ((0, 12), ⟨[(8, .sh)], [((2, 0), .sh), ((2, 1), (.own (.pair (.own .sh) (.pair (.own .sh) .sh)))), ((2, 2), (.own (.pair (.own .sh) .sh))), ((2, 3), .sh), ((2, 4), (.own .sh)), ((2, 5), (.own .sh)), ((5, 0), .sh), ((5, 1), (.own (.pair (.own .sh) (.pair (.own .sh) .sh)))), ((5, 2), (.own (.pair (.own .sh) .sh))), ((5, 3), .sh), ((5, 4), (.own .sh)), ((5, 5), (.own .sh)), ((12, 0), .sh), ((12, 1), .sh)], []⟩), ((0, 8), ⟨[(7, .sh)], [((2, 0), .sh), ((2, 1), (.own (.pair (.own .sh) (.pair (.own .sh) .sh)))), ((2, 2), (.own (.pair (.own .sh) .sh))), ((2, 3), .sh), ((2, 4), (.own .sh)), ((2, 5), (.own .sh)), ((5, 0), .sh), ((5, 1), (.own (.pair (.own .sh) (.pair (.own .sh) .sh)))), ((5, 2), (.own (.pair (.own .sh) .sh))), ((5, 3), .sh), ((5, 4), (.own .sh)), ((5, 5), (.own .sh)), ((12, 0), .sh), ((12, 1), .sh)], []⟩), ((0, 4), ⟨[(6, .sh)], [((2, 0), .sh), ((2, 1), (.own (.pair (.own .sh) (.pair (.own .sh) .sh)))), ((2, 2), (.own (.pair (.own .sh) .sh))), ((2, 3), .sh), ((2, 4), (.own .sh)), ((2, 5), (.own .sh)), ((5, 0), .sh), ((5, 1), (.own (.pair (.own .sh) (.pair (.own .sh) .sh)))), ((5, 2), (.own (.pair (.own .sh) .sh))), ((5, 3), .sh), ((5, 4), (.own .sh)), ((5, 5), (.own .sh)), ((12, 0), .sh), ((12, 1), .sh)], []⟩)]
def ir21 : IR := (.letE ⟨.atom, [(.var 0)]⟩
 (.letE ⟨.mk, [(.var 1), (.int .i64 (0))]⟩
 (.letE ⟨(.all 2), [(.var 2)]⟩
 (.letE ⟨.mk, [(.fld (.var 3) 0), (.fld (.var 3) 1)]⟩
 (.call 66 [(.var 4)] 2
 (.letE ⟨.mk, [(.fld (.var 6) 0), (.fld (.var 6) 1)]⟩
 (.call 66 [(.var 7)] 2
 (.letE ⟨.atom, [(.var 5)]⟩
 (.letE ⟨.atom, [(.var 8)]⟩
 (.letE ⟨.mk, [(.var 10), (.nil (.pair (.sl (.int .u8)) (.pair (.sl (.int .u8)) (.pair (.int .i64) (.pair (.int .i64) .unit))))), (.nil (.pair (.sl (.int .u8)) (.pair (.int .i64) .unit))), (.var 11), (.nil (.pair (.int .i64) (.pair .bool .unit))), (.nil (.pair (.int .i64) (.pair (.int .i64) (.pair (.int .i64) (.pair (.int .i64) .unit)))))]⟩
 (.letE ⟨(.all 6), [(.var 12)]⟩
 (.letE ⟨.mk, [(.fld (.var 9) 0), (.fld (.var 9) 1)]⟩
 (.call 67 [(.int .i64 (20)), (.var 14)] 2
 (.label true
 (.letE ⟨(.bin .gtr 3), [(.var 17), (.int .i64 (0))]⟩
 (.ite (.var 32)
 (.letE ⟨.len, [(.var 25)]⟩
 (.letE ⟨.mk, [(.var 30), (.var 31)]⟩
 (.call 68 [(.var 34)] 2
 (.letE ⟨.mk, [(.fld (.var 36) 0), (.fld (.var 36) 1)]⟩
 (.call 68 [(.var 37)] 2
 (.letE ⟨.mk, [(.fld (.var 39) 0), (.fld (.var 39) 1)]⟩
 (.call 66 [(.var 40)] 2
 (.letE ⟨.mk, [(.fld (.var 42) 0), (.fld (.var 42) 1)]⟩
 (.call 66 [(.var 43)] 2
 (.letE ⟨.atom, [(.var 35)]⟩
 (.letE ⟨.atom, [(.var 38)]⟩
 (.letE ⟨.atom, [(.var 41)]⟩
 (.letE ⟨.atom, [(.var 44)]⟩
 (.letE ⟨.mk, [(.var 46), (.var 47), (.var 48), (.var 49)]⟩
 (.letE ⟨(.lst (.pair (.sl (.int .u8)) (.pair (.sl (.int .u8)) (.pair (.int .i64) (.pair (.int .i64) .unit))))), [(.var 50)]⟩
 (.letE ⟨(.app (.pair (.sl (.int .u8)) (.pair (.sl (.int .u8)) (.pair (.int .i64) (.pair (.int .i64) .unit))))), [(.var 25), (.var 51)]⟩
 (.letE ⟨.atom, [(.var 52)]⟩
 (.letE ⟨(.bin .sub 3), [(.var 17), (.int .i64 (1))]⟩
 (.jump 0 [(.var 54), (.var 18), (.var 19), (.var 20), (.var 21), (.var 22), (.var 23), (.var 24), (.var 53), (.var 26), (.var 27), (.var 28), (.var 29), (.fld (.var 45) 0), (.fld (.var 45) 1)])))))))))))))))))))
 (.letE ⟨.mk, [(.var 30), (.var 31)]⟩
 (.call 67 [(.int .i64 (10)), (.var 33)] 2
 (.label true
 (.letE ⟨(.bin .gtr 3), [(.var 36), (.int .i64 (0))]⟩
 (.ite (.var 51)
 (.letE ⟨.len, [(.var 45)]⟩
 (.letE ⟨.mk, [(.var 49), (.var 50)]⟩
 (.call 68 [(.var 53)] 2
 (.letE ⟨.mk, [(.fld (.var 55) 0), (.fld (.var 55) 1)]⟩
 (.call 66 [(.var 56)] 2
 (.letE ⟨.atom, [(.var 54)]⟩
 (.letE ⟨.atom, [(.var 57)]⟩
 (.letE ⟨.mk, [(.var 59), (.var 60)]⟩
 (.letE ⟨(.lst (.pair (.sl (.int .u8)) (.pair (.int .i64) .unit))), [(.var 61)]⟩
 (.letE ⟨(.app (.pair (.sl (.int .u8)) (.pair (.int .i64) .unit))), [(.var 45), (.var 62)]⟩
 (.letE ⟨.atom, [(.var 63)]⟩
 (.letE ⟨(.bin .sub 3), [(.var 36), (.int .i64 (1))]⟩
 (.jump 1 [(.var 65), (.var 37), (.var 38), (.var 39), (.var 40), (.var 41), (.var 42), (.var 43), (.var 44), (.var 64), (.var 46), (.var 47), (.var 48), (.fld (.var 58) 0), (.fld (.var 58) 1)])))))))))))))
 (.letE ⟨.mk, [(.var 49), (.var 50)]⟩
 (.call 67 [(.int .i64 (8)), (.var 52)] 2
 (.label true
 (.letE ⟨(.bin .gtr 3), [(.var 55), (.int .i64 (0))]⟩
 (.ite (.var 70)
 (.letE ⟨.len, [(.var 66)]⟩
 (.letE ⟨.mk, [(.var 68), (.var 69)]⟩
 (.call 66 [(.var 72)] 2
 (.letE ⟨.mk, [(.fld (.var 74) 0), (.fld (.var 74) 1)]⟩
 (.call 66 [(.var 75)] 2
 (.letE ⟨(.bin .eql 3), [(.var 76), (.int .i64 (1))]⟩
 (.letE ⟨.atom, [(.var 73)]⟩
 (.letE ⟨.atom, [(.var 78)]⟩
 (.letE ⟨.mk, [(.var 79), (.var 80)]⟩
 (.letE ⟨(.lst (.pair (.int .i64) (.pair .bool .unit))), [(.var 81)]⟩
 (.letE ⟨(.app (.pair (.int .i64) (.pair .bool .unit))), [(.var 66), (.var 82)]⟩
 (.letE ⟨.atom, [(.var 83)]⟩
 (.letE ⟨(.bin .sub 3), [(.var 55), (.int .i64 (1))]⟩
 (.jump 2 [(.var 85), (.var 56), (.var 57), (.var 58), (.var 59), (.var 60), (.var 61), (.var 62), (.var 63), (.var 64), (.var 65), (.var 84), (.var 67), (.fld (.var 77) 0), (.fld (.var 77) 1)]))))))))))))))
 (.letE ⟨.mk, [(.var 68), (.var 69)]⟩
 (.call 67 [(.int .i64 (4)), (.var 71)] 2
 (.label true
 (.letE ⟨(.bin .gtr 3), [(.var 74), (.int .i64 (0))]⟩
 (.ite (.var 89)
 (.letE ⟨.len, [(.var 86)]⟩
 (.letE ⟨.mk, [(.var 87), (.var 88)]⟩
 (.call 66 [(.var 91)] 2
 (.letE ⟨.mk, [(.fld (.var 93) 0), (.fld (.var 93) 1)]⟩
 (.call 66 [(.var 94)] 2
 (.letE ⟨.mk, [(.fld (.var 96) 0), (.fld (.var 96) 1)]⟩
 (.call 66 [(.var 97)] 2
 (.letE ⟨.mk, [(.fld (.var 99) 0), (.fld (.var 99) 1)]⟩
 (.call 66 [(.var 100)] 2
 (.letE ⟨.atom, [(.var 98)]⟩
 (.letE ⟨.atom, [(.var 101)]⟩
 (.letE ⟨.mk, [(.var 103), (.var 104)]⟩
 (.letE ⟨.atom, [(.var 92)]⟩
 (.letE ⟨.atom, [(.var 95)]⟩
 (.letE ⟨(.all 2), [(.var 105)]⟩
 (.letE ⟨.mk, [(.var 106), (.var 107), (.fld (.var 108) 0), (.fld (.var 108) 1)]⟩
 (.letE ⟨(.lst (.pair (.int .i64) (.pair (.int .i64) (.pair (.int .i64) (.pair (.int .i64) .unit))))), [(.var 109)]⟩
 (.letE ⟨(.app (.pair (.int .i64) (.pair (.int .i64) (.pair (.int .i64) (.pair (.int .i64) .unit))))), [(.var 86), (.var 110)]⟩
 (.letE ⟨.atom, [(.var 111)]⟩
 (.letE ⟨(.bin .sub 3), [(.var 74), (.int .i64 (1))]⟩
 (.jump 3 [(.var 113), (.var 75), (.var 76), (.var 77), (.var 78), (.var 79), (.var 80), (.var 81), (.var 82), (.var 83), (.var 84), (.var 85), (.var 112), (.fld (.var 102) 0), (.fld (.var 102) 1)])))))))))))))))))))))
 (.label false
 (.ite (.var 90)
 (.letE ⟨.mk, [(.int .i64 (0)), (.nil (.pair (.sl (.int .u8)) (.pair (.sl (.int .u8)) (.pair (.int .i64) (.pair (.int .i64) .unit))))), (.nil (.pair (.sl (.int .u8)) (.pair (.int .i64) .unit))), (.int .i64 (0)), (.nil (.pair (.int .i64) (.pair .bool .unit))), (.nil (.pair (.int .i64) (.pair (.int .i64) (.pair (.int .i64) (.pair (.int .i64) .unit)))))]⟩
 (.letE ⟨(.all 6), [(.var 91)]⟩
 (.letE ⟨.mk, [(.fld (.var 92) 0), (.fld (.var 92) 1), (.fld (.var 92) 2), (.fld (.var 92) 3), (.fld (.var 92) 4), (.fld (.var 92) 5)]⟩
 (.ret [(.var 93), (.bool false)]))))
 (.letE ⟨.mk, [(.var 81), (.var 82), (.var 83), (.var 84), (.var 85), (.var 86)]⟩
 (.letE ⟨(.all 6), [(.var 91)]⟩
 (.letE ⟨.mk, [(.fld (.var 92) 0), (.fld (.var 92) 1), (.fld (.var 92) 2), (.fld (.var 92) 3), (.fld (.var 92) 4), (.fld (.var 92) 5)]⟩
 (.ret [(.var 93), (.bool true)])))))
 (.letE ⟨.mk, [(.var 81), (.var 82), (.var 83), (.var 84), (.var 85), (.var 86)]⟩
 (.call 20 [(.var 90)] 1
 (.letE ⟨(.un .not), [(.var 91)]⟩
 (.ite (.var 92)
 (.jump 4 [(.bool true)])
 (.letE ⟨.mk, [(.var 81), (.var 82), (.var 83), (.var 84), (.var 85), (.var 86)]⟩
 (.call 53 [(.var 93)] 1
 (.call 69 [(.var 94), (.var 0)] 1
 (.letE ⟨(.un .not), [(.var 95)]⟩
 (.jump 4 [(.var 96)]))))))))))))
 (.jump 3 [(.var 72), (.var 56), (.var 57), (.var 58), (.var 59), (.var 60), (.var 61), (.var 62), (.var 63), (.var 64), (.var 65), (.var 66), (.var 67), (.fld (.var 73) 0), (.fld (.var 73) 1)]))))))
 (.jump 2 [(.var 53), (.var 37), (.var 38), (.var 39), (.var 40), (.var 41), (.var 42), (.var 43), (.var 44), (.var 45), (.var 46), (.var 47), (.var 48), (.fld (.var 54) 0), (.fld (.var 54) 1)]))))))
 (.jump 1 [(.var 34), (.var 18), (.var 19), (.var 20), (.var 21), (.var 22), (.var 23), (.var 24), (.var 25), (.var 26), (.var 27), (.var 28), (.var 29), (.fld (.var 35) 0), (.fld (.var 35) 1)]))))))
 (.jump 0 [(.var 15), (.int .i64 (0)), (.nil (.pair (.sl (.int .u8)) (.pair (.sl (.int .u8)) (.pair (.int .i64) (.pair (.int .i64) .unit))))), (.nil (.pair (.sl (.int .u8)) (.pair (.int .i64) .unit))), (.int .i64 (0)), (.nil (.pair (.int .i64) (.pair .bool .unit))), (.nil (.pair (.int .i64) (.pair (.int .i64) (.pair (.int .i64) (.pair (.int .i64) .unit))))), (.fld (.var 13) 0), (.fld (.var 13) 1), (.fld (.var 13) 2), (.fld (.var 13) 3), (.fld (.var 13) 4), (.fld (.var 13) 5), (.fld (.var 16) 0), (.fld (.var 16) 1)])))))))))))))))
/- loop.example/g00365/spec.l9flag -/
def sg126 : Sig := ⟨[.val, .val], [((.sl (.int .u8)), (.own .sh))], false, none, false⟩
def hi126 : Hints := []
def ir126 : IR := (.ite (.var 1)
 (.call 124 [(.var 0), (.int .i64 (1))] 1
 (.ret [(.var 2)]))
 (.call 124 [(.var 0), (.int .i64 (0))] 1
 (.ret [(.var 2)])))
/- loop.example/g00365/spec.PutText -/
def sg125 : Sig := ⟨[.val, .val], [((.sl (.int .u8)), (.own .sh))], false, none, false⟩
def hi125 : Hints := []
def ir125 : IR := (.letE ⟨.len, [(.var 1)]⟩
 (.letE ⟨(.bin .gtr 3), [(.var 2), (.int .i64 (20))]⟩
 (.ite (.var 3)
 (.letE ⟨(.lst (.int .u8)), []⟩
 (.letE ⟨(.app (.int .u8)), [(.var 4), (.var 0)]⟩
 (.ret [(.var 5)])))
 (.letE ⟨.len, [(.var 1)]⟩
 (.call 124 [(.var 0), (.var 4)] 1
 (.letE ⟨(.app (.int .u8)), [(.var 5), (.var 1)]⟩
 (.ret [(.var 6)])))))))
/- loop.example/g00365/spec.l9bytes -/
def sg70 : Sig := ⟨[.val], [((.sl (.int .u8)), (.own .sh))], false, none, false⟩
def hi70 : Hints := [((0, 19), ⟨[(3, (.own .sh)), (8, .sh), (2, (.own .sh)), (12, (.own .sh)), (15, (.own .sh))], [], []⟩), ((0, 14), ⟨[(3, (.own .sh)), (7, .sh), (2, (.own .sh)), (12, (.own .sh)), (15, (.own .sh))], [], []⟩), ((0, 9), ⟨[(3, (.own .sh)), (6, .sh), (2, (.own .sh)), (12, (.own .sh)), (15, (.own .sh))], [], []⟩), ((0, 3), ⟨[(3, (.own .sh)), (4, .sh), (2, (.own .sh)), (12, (.own .sh)), (15, (.own .sh))], [], []⟩)]
def ir70 : IR := (.letE ⟨(.all 6), [(.var 0)]⟩
 (.call 124 [(.nil (.int .u8)), (.fld (.var 1) 0)] 1
 (.call 124 [(.var 2), (.fld (.var 1) 3)] 1
 (.letE ⟨.len, [(.fld (.var 1) 1)]⟩
 (.call 124 [(.var 3), (.var 4)] 1
 (.label true
 (.letE ⟨.len, [(.fld (.var 1) 1)]⟩
 (.letE ⟨(.bin .lss 3), [(.var 7), (.var 11)]⟩
 (.ite (.var 12)
 (.letE ⟨(.idx 4), [(.fld (.var 1) 1), (.var 7)]⟩
 (.letE ⟨(.cells 0 4), [(.var 13)]⟩
 (.letE ⟨(.all 4), [(.var 14)]⟩
 (.call 125 [(.var 6), (.fld (.var 15) 0)] 1
 (.call 125 [(.var 16), (.fld (.var 15) 1)] 1
 (.call 124 [(.var 17), (.fld (.var 15) 2)] 1
 (.call 124 [(.var 18), (.fld (.var 15) 3)] 1
 (.letE ⟨(.bin .add 3), [(.var 7), (.int .i64 (1))]⟩
 (.jump 0 [(.var 19), (.var 20), (.var 8), (.var 9), (.var 10)])))))))))
 (.letE ⟨.len, [(.fld (.var 1) 2)]⟩
 (.call 124 [(.var 6), (.var 13)] 1
 (.label true
 (.letE ⟨.len, [(.fld (.var 1) 2)]⟩
 (.letE ⟨(.bin .lss 3), [(.var 16), (.var 20)]⟩
 (.ite (.var 21)
 (.letE ⟨(.idx 2), [(.fld (.var 1) 2), (.var 16)]⟩
 (.letE ⟨.a, [(.fld (.var 22) 0)]⟩
 (.call 125 [(.var 15), (.var 23)] 1
 (.letE ⟨(.idx 2), [(.fld (.var 1) 2), (.var 16)]⟩
 (.letE ⟨.a, [(.fld (.var 25) 1)]⟩
 (.call 124 [(.var 24), (.var 26)] 1
 (.letE ⟨(.bin .add 3), [(.var 16), (.int .i64 (1))]⟩
 (.jump 1 [(.var 27), (.var 28), (.var 17), (.var 18), (.var 19)]))))))))
 (.letE ⟨.len, [(.fld (.var 1) 4)]⟩
 (.call 124 [(.var 15), (.var 22)] 1
 (.label true
 (.letE ⟨.len, [(.fld (.var 1) 4)]⟩
 (.letE ⟨(.bin .lss 3), [(.var 25), (.var 29)]⟩
 (.ite (.var 30)
 (.letE ⟨(.idx 2), [(.fld (.var 1) 4), (.var 25)]⟩
 (.letE ⟨.a, [(.fld (.var 31) 0)]⟩
 (.call 124 [(.var 24), (.var 32)] 1
 (.letE ⟨(.idx 2), [(.fld (.var 1) 4), (.var 25)]⟩
 (.letE ⟨.a, [(.fld (.var 34) 1)]⟩
 (.call 126 [(.var 33), (.var 35)] 1
 (.letE ⟨(.bin .add 3), [(.var 25), (.int .i64 (1))]⟩
 (.jump 2 [(.var 36), (.var 37), (.var 26), (.var 27), (.var 28)]))))))))
 (.letE ⟨.len, [(.fld (.var 1) 5)]⟩
 (.call 124 [(.var 24), (.var 31)] 1
 (.label true
 (.letE ⟨.len, [(.fld (.var 1) 5)]⟩
 (.letE ⟨(.bin .lss 3), [(.var 34), (.var 38)]⟩
 (.ite (.var 39)
 (.letE ⟨(.idx 4), [(.fld (.var 1) 5), (.var 34)]⟩
 (.letE ⟨(.cells 0 4), [(.var 40)]⟩
 (.letE ⟨(.all 4), [(.var 41)]⟩
 (.call 124 [(.var 33), (.fld (.var 42) 0)] 1
 (.call 124 [(.var 43), (.fld (.var 42) 1)] 1
 (.call 124 [(.var 44), (.fld (.var 42) 2)] 1
 (.call 124 [(.var 45), (.fld (.var 42) 3)] 1
 (.letE ⟨(.bin .add 3), [(.var 34), (.int .i64 (1))]⟩
 (.jump 3 [(.var 46), (.var 47), (.var 35), (.var 36), (.var 37)])))))))))
 (.ret [(.var 33)]))))
 (.jump 3 [(.var 32), (.int .i64 (0)), (.var 26), (.var 27), (.var 28)])))))))
 (.jump 2 [(.var 23), (.int .i64 (0)), (.var 17), (.var 18), (.var 19)])))))))
 (.jump 1 [(.var 14), (.int .i64 (0)), (.var 8), (.var 9), (.var 10)])))))))
 (.jump 0 [(.var 5), (.int .i64 (0)), (.nil (.int .u8)), (.var 2), (.var 3)])))))))
/- loop.example/g00365/spec.GetText -/
def sg147 : Sig := ⟨[.val, .val], [((.sl (.int .u8)), (.own .sh)), ((.int .i64), .sh)], false, none, false⟩
def hi147 : Hints := []
def ir147 : IR := (.call 146 [(.var 0), (.var 1)] 2
 (.letE ⟨(.bin .lss 3), [(.var 3), (.int .i64 (0))]⟩
 (.ite (.var 4)
 (.ret [(.nil (.int .u8)), (.int .i64 (-1))])
 (.letE ⟨(.bin .gtr 3), [(.var 2), (.int .i64 (20))]⟩
 (.ite (.var 5)
 (.ret [(.nil (.int .u8)), (.int .i64 (-1))])
 (.letE ⟨.len, [(.var 0)]⟩
 (.letE ⟨(.bin .sub 3), [(.var 6), (.var 3)]⟩
 (.letE ⟨(.bin .gtr 3), [(.var 2), (.var 7)]⟩
 (.ite (.var 8)
 (.ret [(.nil (.int .u8)), (.int .i64 (-1))])
 (.letE ⟨(.lst (.int .u8)), []⟩
 (.letE ⟨(.bin .add 3), [(.var 3), (.var 2)]⟩
 (.letE ⟨(.sub 1 true true), [(.var 0), (.var 3), (.var 10)]⟩
 (.letE ⟨(.app (.int .u8)), [(.var 9), (.var 11)]⟩
 (.letE ⟨(.bin .add 3), [(.var 3), (.var 2)]⟩
 (.ret [(.var 12), (.var 13)])))))))))))))))
/- loop.example/g00365/spec.l3text -/
def sg84 : Sig := ⟨[], [((.sl (.int .u8)), (.own .sh))], false, some (0, .box (.pair (.sl (.int .u8)) (.pair (.int .i64) .unit)) .sh .sh), false⟩
def hi84 : Hints := []
def ir84 : IR := (.letE ⟨(.bin .lss 3), [(.fld (.var 0) 1), (.int .i64 (0))]⟩
 (.ite (.var 1)
 (.letE ⟨.mk, [(.fld (.var 0) 0), (.fld (.var 0) 1)]⟩
 (.ret [(.nil (.int .u8)), (.var 2)]))
 (.call 147 [(.fld (.var 0) 0), (.fld (.var 0) 1)] 2
 (.letE ⟨.atom, [(.var 3)]⟩
 (.letE ⟨.mk, [(.fld (.var 0) 0), (.var 4)]⟩
 (.ret [(.var 2), (.var 5)]))))))
/- loop.example/g00365/spec.StateRead -/
def sg30 : Sig := ⟨[.val], [((.pair (.int .i64) (.pair (.sl (.pair (.sl (.int .u8)) (.pair (.sl (.int .u8)) (.pair (.int .i64) (.pair (.int .i64) .unit))))) (.pair (.sl (.pair (.sl (.int .u8)) (.pair (.int .i64) .unit))) (.pair (.int .i64) (.pair (.sl (.pair (.int .i64) (.pair .bool .unit))) (.pair (.sl (.pair (.int .i64) (.pair (.int .i64) (.pair (.int .i64) (.pair (.int .i64) .unit))))) .unit)))))), (.pair .sh (.pair (.own (.pair (.own .sh) (.pair (.own .sh) .sh))) (.pair (.own (.pair (.own .sh) .sh)) (.pair .sh (.pair (.own .sh) (.pair (.own .sh) .sh))))))), (.bool, .sh)], true, none, false⟩
def hi30 : Hints := [((1, 37), ⟨[(178, .sh)], [], [159, 160, 161, 162, 163, 164, 165, 166, 167, 168, 169, 170, 171, 172, 173, 174, 175, 176, 177]⟩), ((1, 36), ⟨[], [((2, 0), .sh), ((2, 1), (.own (.pair (.own .sh) (.pair (.own .sh) .sh)))), ((2, 2), (.own (.pair (.own .sh) .sh))), ((2, 3), .sh), ((2, 4), (.own .sh)), ((2, 5), (.own .sh)), ((5, 0), .sh), ((5, 1), (.own (.pair (.own .sh) (.pair (.own .sh) .sh)))), ((5, 2), (.own (.pair (.own .sh) .sh))), ((5, 3), .sh), ((5, 4), (.own .sh)), ((5, 5), (.own .sh)), ((17, 0), .sh), ((17, 1), .sh)], [13, 123, 124, 125, 126, 127, 128, 129, 130, 131, 132, 133, 134, 135, 136]⟩), ((0, 29), ⟨[(13, .sh)], [((2, 0), .sh), ((2, 1), (.own (.pair (.own .sh) (.pair (.own .sh) .sh)))), ((2, 2), (.own (.pair (.own .sh) .sh))), ((2, 3), .sh), ((2, 4), (.own .sh)), ((2, 5), (.own .sh)), ((5, 0), .sh), ((5, 1), (.own (.pair (.own .sh) (.pair (.own .sh) .sh)))), ((5, 2), (.own (.pair (.own .sh) .sh))), ((5, 3), .sh), ((5, 4), (.own .sh)), ((5, 5), (.own .sh)), ((17, 0), .sh), ((17, 1), .sh)], []⟩), ((1, 27), ⟨[], [((2, 0), .sh), ((2, 1), (.own (.pair (.own .sh) (.pair (.own .sh) .sh)))), ((2, 2), (.own (.pair (.own .sh) .sh))), ((2, 3), .sh), ((2, 4), (.own .sh)), ((2, 5), (.own .sh)), ((5, 0), .sh), ((5, 1), (.own (.pair (.own .sh) (.pair (.own .sh) .sh)))), ((5, 2), (.own (.pair (.own .sh) .sh))), ((5, 3), .sh), ((5, 4), (.own .sh)), ((5, 5), (.own .sh)), ((17, 0), .sh), ((17, 1), .sh)], [11, 92, 93, 94, 95, 96, 97, 98, 99, 100, 101, 102, 103, 104, 105]⟩), ((0, 22), ⟨[(11, .sh)], [((2, 0), .sh), ((2, 1), (.own (.pair (.own .sh) (.pair (.own .sh) .sh)))), ((2, 2), (.own (.pair (.own .sh) .sh))), ((2, 3), .sh), ((2, 4), (.own .sh)), ((2, 5), (.own .sh)), ((5, 0), .sh), ((5, 1), (.own (.pair (.own .sh) (.pair (.own .sh) .sh)))), ((5, 2), (.own (.pair (.own .sh) .sh))), ((5, 3), .sh), ((5, 4), (.own .sh)), ((5, 5), (.own .sh)), ((17, 0), .sh), ((17, 1), .sh)], []⟩), ((1, 20), ⟨[], [((2, 0), .sh), ((2, 1), (.own (.pair (.own .sh) (.pair (.own .sh) .sh)))), ((2, 2), (.own (.pair (.own .sh) .sh))), ((2, 3), .sh), ((2, 4), (.own .sh)), ((2, 5), (.own .sh)), ((5, 0), .sh), ((5, 1), (.own (.pair (.own .sh) (.pair (.own .sh) .sh)))), ((5, 2), (.own (.pair (.own .sh) .sh))), ((5, 3), .sh), ((5, 4), (.own .sh)), ((5, 5), (.own .sh)), ((17, 0), .sh), ((17, 1), .sh)], [9, 62, 63, 64, 65, 66, 67, 68, 69, 70, 71, 72, 73, 74, 75]⟩), ((0, 15), ⟨[(9, .sh)], [((2, 0), .sh), ((2, 1), (.own (.pair (.own .sh) (.pair (.own .sh) .sh)))), ((2, 2), (.own (.pair (.own .sh) .sh))), ((2, 3), .sh), ((2, 4), (.own .sh)), ((2, 5), (.own .sh)), ((5, 0), .sh), ((5, 1), (.own (.pair (.own .sh) (.pair (.own .sh) .sh)))), ((5, 2), (.own (.pair (.own .sh) .sh))), ((5, 3), .sh), ((5, 4), (.own .sh)), ((5, 5), (.own .sh)), ((17, 0), .sh), ((17, 1), .sh)], []⟩), ((1, 13), ⟨[], [((2, 0), .sh), ((2, 1), (.own (.pair (.own .sh) (.pair (.own .sh) .sh)))), ((2, 2), (.own (.pair (.own .sh) .sh))), ((2, 3), .sh), ((2, 4), (.own .sh)), ((2, 5), (.own .sh)), ((5, 0), .sh), ((5, 1), (.own (.pair (.own .sh) (.pair (.own .sh) .sh)))), ((5, 2), (.own (.pair (.own .sh) .sh))), ((5, 3), .sh), ((5, 4), (.own .sh)), ((5, 5), (.own .sh)), ((17, 0), .sh), ((17, 1), .sh)], [7, 26, 27, 28, 29, 30, 31, 32, 33, 34, 35, 36, 37, 38, 39]⟩), ((0, 6), ⟨[(7, .sh)], [((2, 0), .sh), ((2, 1), (.own (.pair (.own .sh) (.pair (.own .sh) .sh)))), ((2, 2), (.own (.pair (.own .sh) .sh))), ((2, 3), .sh), ((2, 4), (.own .sh)), ((2, 5), (.own .sh)), ((5, 0), .sh), ((5, 1), (.own (.pair (.own .sh) (.pair (.own .sh) .sh)))), ((5, 2), (.own (.pair (.own .sh) .sh))), ((5, 3), .sh), ((5, 4), (.own .sh)), ((5, 5), (.own .sh)), ((17, 0), .sh), ((17, 1), .sh)], []⟩)]
def ir30 : IR := (.letE ⟨.atom, [(.var 0)]⟩
 (.letE ⟨.mk, [(.var 1), (.int .i64 (0))]⟩
 (.letE ⟨(.all 2), [(.var 2)]⟩
 (.letE ⟨.mk, [(.fld (.var 3) 0), (.fld (.var 3) 1)]⟩
 (.call 83 [(.var 4)] 2
 (.letE ⟨.atom, [(.var 5)]⟩
 (.letE ⟨.mk, [(.var 7), (.nil (.pair (.sl (.int .u8)) (.pair (.sl (.int .u8)) (.pair (.int .i64) (.pair (.int .i64) .unit))))), (.nil (.pair (.sl (.int .u8)) (.pair (.int .i64) .unit))), (.int .i64 (0)), (.nil (.pair (.int .i64) (.pair .bool .unit))), (.nil (.pair (.int .i64) (.pair (.int .i64) (.pair (.int .i64) (.pair (.int .i64) .unit)))))]⟩
 (.letE ⟨(.all 6), [(.var 8)]⟩
 (.letE ⟨.mk, [(.fld (.var 6) 0), (.fld (.var 6) 1)]⟩
 (.call 83 [(.var 10)] 2
 (.letE ⟨.atom, [(.var 11)]⟩
 (.letE ⟨.mk, [(.fld (.var 12) 0), (.fld (.var 12) 1)]⟩
 (.call 83 [(.var 14)] 2
 (.label false
 (.letE ⟨.mk, [(.var 29), (.var 30)]⟩
 (.call 83 [(.var 31)] 2
 (.label false
 (.letE ⟨.mk, [(.var 46), (.var 47)]⟩
 (.call 83 [(.var 48)] 2
 (.label false
 (.letE ⟨.mk, [(.var 63), (.var 64)]⟩
 (.call 83 [(.var 65)] 2
 (.label false
 (.label false
 (.ite (.var 82)
 (.letE ⟨.mk, [(.int .i64 (0)), (.nil (.pair (.sl (.int .u8)) (.pair (.sl (.int .u8)) (.pair (.int .i64) (.pair (.int .i64) .unit))))), (.nil (.pair (.sl (.int .u8)) (.pair (.int .i64) .unit))), (.int .i64 (0)), (.nil (.pair (.int .i64) (.pair .bool .unit))), (.nil (.pair (.int .i64) (.pair (.int .i64) (.pair (.int .i64) (.pair (.int .i64) .unit)))))]⟩
 (.letE ⟨(.all 6), [(.var 83)]⟩
 (.letE ⟨.mk, [(.fld (.var 84) 0), (.fld (.var 84) 1), (.fld (.var 84) 2), (.fld (.var 84) 3), (.fld (.var 84) 4), (.fld (.var 84) 5)]⟩
 (.ret [(.var 85), (.bool false)]))))
 (.letE ⟨.mk, [(.var 74), (.var 75), (.var 76), (.var 77), (.var 78), (.var 79)]⟩
 (.letE ⟨(.all 6), [(.var 83)]⟩
 (.letE ⟨.mk, [(.fld (.var 84) 0), (.fld (.var 84) 1), (.fld (.var 84) 2), (.fld (.var 84) 3), (.fld (.var 84) 4), (.fld (.var 84) 5)]⟩
 (.ret [(.var 85), (.bool true)])))))
 (.letE ⟨.len, [(.var 0)]⟩
 (.letE ⟨(.bin .neq 3), [(.var 81), (.var 82)]⟩
 (.ite (.var 83)
 (.jump 4 [(.bool true)])
 (.letE ⟨.mk, [(.var 74), (.var 75), (.var 76), (.var 77), (.var 78), (.var 79)]⟩
 (.call 19 [(.var 84)] 1
 (.letE ⟨(.un .not), [(.var 85)]⟩
 (.ite (.var 86)
 (.jump 4 [(.bool true)])
 (.letE ⟨.mk, [(.var 74), (.var 75), (.var 76), (.var 77), (.var 78), (.var 79)]⟩
 (.call 70 [(.var 87)] 1
 (.letE ⟨.text, [(.var 88)]⟩
 (.letE ⟨.text, [(.var 0)]⟩
 (.letE ⟨(.bin .neq 9), [(.var 89), (.var 90)]⟩
 (.jump 4 [(.var 91)]))))))))))))))
 (.label true
 (.letE ⟨(.bin .lss 3), [(.var 68), (.var 66)]⟩
 (.ite (.var 83)
 (.letE ⟨(.bin .leq 3), [(.var 68), (.int .i64 (4))]⟩
 (.ite (.var 84)
 (.letE ⟨(.bin .geq 3), [(.var 82), (.int .i64 (0))]⟩
 (.ite (.var 85)
 (.letE ⟨.mk, [(.var 81), (.var 82)]⟩
 (.call 83 [(.var 86)] 2
 (.letE ⟨.atom, [(.var 87)]⟩
 (.letE ⟨.mk, [(.var 89), (.int .i64 (0)), (.int .i64 (0)), (.int .i64 (0))]⟩
 (.letE ⟨(.all 4), [(.var 90)]⟩
 (.letE ⟨.mk, [(.fld (.var 88) 0), (.fld (.var 88) 1)]⟩
 (.call 83 [(.var 92)] 2
 (.letE ⟨.atom, [(.var 93)]⟩
 (.letE ⟨.mk, [(.fld (.var 94) 0), (.fld (.var 94) 1)]⟩
 (.call 83 [(.var 96)] 2
 (.letE ⟨.atom, [(.var 97)]⟩
 (.letE ⟨.mk, [(.fld (.var 98) 0), (.fld (.var 98) 1)]⟩
 (.call 83 [(.var 100)] 2
 (.letE ⟨.atom, [(.var 101)]⟩
 (.letE ⟨.len, [(.var 80)]⟩
 (.letE ⟨.mk, [(.fld (.var 91) 0), (.var 95), (.var 99), (.var 103)]⟩
 (.letE ⟨(.lst (.pair (.int .i64) (.pair (.int .i64) (.pair (.int .i64) (.pair (.int .i64) .unit))))), [(.var 105)]⟩
 (.letE ⟨(.app (.pair (.int .i64) (.pair (.int .i64) (.pair (.int .i64) (.pair (.int .i64) .unit))))), [(.var 80), (.var 106)]⟩
 (.letE ⟨.atom, [(.var 107)]⟩
 (.letE ⟨(.bin .add 3), [(.var 68), (.int .i64 (1))]⟩
 (.jump 4 [(.var 109), (.var 69), (.var 70), (.var 71), (.var 72), (.var 73), (.var 74), (.var 75), (.var 76), (.var 77), (.var 78), (.var 79), (.var 108), (.fld (.var 102) 0), (.fld (.var 102) 1)])))))))))))))))))))))
 (.jump 3 [(.var 69), (.var 70), (.var 71), (.var 72), (.var 73), (.var 74), (.var 75), (.var 76), (.var 77), (.var 78), (.var 79), (.var 80), (.var 81), (.var 82)])))
 (.jump 3 [(.var 69), (.var 70), (.var 71), (.var 72), (.var 73), (.var 74), (.var 75), (.var 76), (.var 77), (.var 78), (.var 79), (.var 80), (.var 81), (.var 82)])))
 (.jump 3 [(.var 69), (.var 70), (.var 71), (.var 72), (.var 73), (.var 74), (.var 75), (.var 76), (.var 77), (.var 78), (.var 79), (.var 80), (.var 81), (.var 82)])))
 (.jump 4 [(.int .i64 (0)), (.var 51), (.var 52), (.var 53), (.var 54), (.var 55), (.var 56), (.var 57), (.var 58), (.var 59), (.var 60), (.var 61), (.var 62), (.fld (.var 67) 0), (.fld (.var 67) 1)])))))
 (.label true
 (.letE ⟨(.bin .lss 3), [(.var 51), (.var 49)]⟩
 (.ite (.var 66)
 (.letE ⟨(.bin .leq 3), [(.var 51), (.int .i64 (8))]⟩
 (.ite (.var 67)
 (.letE ⟨(.bin .geq 3), [(.var 65), (.int .i64 (0))]⟩
 (.ite (.var 68)
 (.letE ⟨.mk, [(.var 64), (.var 65)]⟩
 (.call 83 [(.var 69)] 2
 (.letE ⟨.atom, [(.var 70)]⟩
 (.letE ⟨.mk, [(.var 72), (.bool false)]⟩
 (.letE ⟨(.all 2), [(.var 73)]⟩
 (.letE ⟨.mk, [(.fld (.var 71) 0), (.fld (.var 71) 1)]⟩
 (.call 83 [(.var 75)] 2
 (.letE ⟨(.bin .eql 3), [(.var 76), (.int .i64 (1))]⟩
 (.letE ⟨.atom, [(.var 78)]⟩
 (.letE ⟨.len, [(.var 62)]⟩
 (.letE ⟨.mk, [(.fld (.var 74) 0), (.var 79)]⟩
 (.letE ⟨(.lst (.pair (.int .i64) (.pair .bool .unit))), [(.var 81)]⟩
 (.letE ⟨(.app (.pair (.int .i64) (.pair .bool .unit))), [(.var 62), (.var 82)]⟩
 (.letE ⟨.atom, [(.var 83)]⟩
 (.letE ⟨(.bin .add 3), [(.var 51), (.int .i64 (1))]⟩
 (.jump 3 [(.var 85), (.var 52), (.var 53), (.var 54), (.var 55), (.var 56), (.var 57), (.var 58), (.var 59), (.var 60), (.var 61), (.var 84), (.var 63), (.fld (.var 77) 0), (.fld (.var 77) 1)]))))))))))))))))
 (.jump 2 [(.var 52), (.var 53), (.var 54), (.var 55), (.var 56), (.var 57), (.var 58), (.var 59), (.var 60), (.var 61), (.var 62), (.var 63), (.var 64), (.var 65)])))
 (.jump 2 [(.var 52), (.var 53), (.var 54), (.var 55), (.var 56), (.var 57), (.var 58), (.var 59), (.var 60), (.var 61), (.var 62), (.var 63), (.var 64), (.var 65)])))
 (.jump 2 [(.var 52), (.var 53), (.var 54), (.var 55), (.var 56), (.var 57), (.var 58), (.var 59), (.var 60), (.var 61), (.var 62), (.var 63), (.var 64), (.var 65)])))
 (.jump 3 [(.int .i64 (0)), (.var 34), (.var 35), (.var 36), (.var 37), (.var 38), (.var 39), (.var 40), (.var 41), (.var 42), (.var 43), (.var 44), (.var 45), (.fld (.var 50) 0), (.fld (.var 50) 1)])))))
 (.label true
 (.letE ⟨(.bin .lss 3), [(.var 34), (.var 32)]⟩
 (.ite (.var 49)
 (.letE ⟨(.bin .leq 3), [(.var 34), (.int .i64 (10))]⟩
 (.ite (.var 50)
 (.letE ⟨(.bin .geq 3), [(.var 48), (.int .i64 (0))]⟩
 (.ite (.var 51)
 (.letE ⟨.mk, [(.var 47), (.var 48)]⟩
 (.call 84 [(.var 52)] 2
 (.letE ⟨.atom, [(.var 53)]⟩
 (.letE ⟨.mk, [(.var 55), (.int .i64 (0))]⟩
 (.letE ⟨(.all 2), [(.var 56)]⟩
 (.letE ⟨.mk, [(.fld (.var 54) 0), (.fld (.var 54) 1)]⟩
 (.call 83 [(.var 58)] 2
 (.letE ⟨.atom, [(.var 59)]⟩
 (.letE ⟨.len, [(.var 43)]⟩
 (.letE ⟨.mk, [(.fld (.var 57) 0), (.var 61)]⟩
 (.letE ⟨(.lst (.pair (.sl (.int .u8)) (.pair (.int .i64) .unit))), [(.var 63)]⟩
 (.letE ⟨(.app (.pair (.sl (.int .u8)) (.pair (.int .i64) .unit))), [(.var 43), (.var 64)]⟩
 (.letE ⟨.atom, [(.var 65)]⟩
 (.letE ⟨(.bin .add 3), [(.var 34), (.int .i64 (1))]⟩
 (.jump 2 [(.var 67), (.var 35), (.var 36), (.var 37), (.var 38), (.var 39), (.var 40), (.var 41), (.var 42), (.var 66), (.var 44), (.var 45), (.var 46), (.fld (.var 60) 0), (.fld (.var 60) 1)])))))))))))))))
 (.jump 1 [(.var 35), (.var 36), (.var 37), (.var 38), (.var 39), (.var 40), (.var 41), (.var 42), (.var 43), (.var 44), (.var 45), (.var 46), (.var 47), (.var 48)])))
 (.jump 1 [(.var 35), (.var 36), (.var 37), (.var 38), (.var 39), (.var 40), (.var 41), (.var 42), (.var 43), (.var 44), (.var 45), (.var 46), (.var 47), (.var 48)])))
 (.jump 1 [(.var 35), (.var 36), (.var 37), (.var 38), (.var 39), (.var 40), (.var 41), (.var 42), (.var 43), (.var 44), (.var 45), (.var 46), (.var 47), (.var 48)])))
 (.jump 2 [(.int .i64 (0)), (.var 17), (.var 18), (.var 19), (.var 20), (.var 21), (.var 22), (.var 23), (.var 24), (.var 25), (.var 26), (.var 27), (.var 28), (.fld (.var 33) 0), (.fld (.var 33) 1)])))))
 (.label true
 (.letE ⟨(.bin .lss 3), [(.var 17), (.var 15)]⟩
 (.ite (.var 32)
 (.letE ⟨(.bin .leq 3), [(.var 17), (.int .i64 (20))]⟩
 (.ite (.var 33)
 (.letE ⟨(.bin .geq 3), [(.var 31), (.int .i64 (0))]⟩
 (.ite (.var 34)
 (.letE ⟨.mk, [(.var 30), (.var 31)]⟩
 (.call 84 [(.var 35)] 2
 (.letE ⟨.atom, [(.var 36)]⟩
 (.letE ⟨.mk, [(.var 38), (.nil (.int .u8)), (.int .i64 (0)), (.int .i64 (0))]⟩
 (.letE ⟨(.all 4), [(.var 39)]⟩
 (.letE ⟨.mk, [(.fld (.var 37) 0), (.fld (.var 37) 1)]⟩
 (.call 84 [(.var 41)] 2
 (.letE ⟨.atom, [(.var 42)]⟩
 (.letE ⟨.mk, [(.fld (.var 43) 0), (.fld (.var 43) 1)]⟩
 (.call 83 [(.var 45)] 2
 (.letE ⟨.atom, [(.var 46)]⟩
 (.letE ⟨.mk, [(.fld (.var 47) 0), (.fld (.var 47) 1)]⟩
 (.call 83 [(.var 49)] 2
 (.letE ⟨.atom, [(.var 50)]⟩
 (.letE ⟨.len, [(.var 25)]⟩
 (.letE ⟨.mk, [(.fld (.var 40) 0), (.var 44), (.var 48), (.var 52)]⟩
 (.letE ⟨(.lst (.pair (.sl (.int .u8)) (.pair (.sl (.int .u8)) (.pair (.int .i64) (.pair (.int .i64) .unit))))), [(.var 54)]⟩
 (.letE ⟨(.app (.pair (.sl (.int .u8)) (.pair (.sl (.int .u8)) (.pair (.int .i64) (.pair (.int .i64) .unit))))), [(.var 25), (.var 55)]⟩
 (.letE ⟨.atom, [(.var 56)]⟩
 (.letE ⟨(.bin .add 3), [(.var 17), (.int .i64 (1))]⟩
 (.jump 1 [(.var 58), (.var 18), (.var 19), (.var 20), (.var 21), (.var 22), (.var 23), (.var 24), (.var 57), (.var 26), (.var 27), (.var 28), (.var 29), (.fld (.var 51) 0), (.fld (.var 51) 1)])))))))))))))))))))))
 (.jump 0 [(.var 18), (.var 19), (.var 20), (.var 21), (.var 22), (.var 23), (.var 24), (.var 25), (.var 26), (.var 27), (.var 28), (.var 29), (.var 30), (.var 31)])))
 (.jump 0 [(.var 18), (.var 19), (.var 20), (.var 21), (.var 22), (.var 23), (.var 24), (.var 25), (.var 26), (.var 27), (.var 28), (.var 29), (.var 30), (.var 31)])))
 (.jump 0 [(.var 18), (.var 19), (.var 20), (.var 21), (.var 22), (.var 23), (.var 24), (.var 25), (.var 26), (.var 27), (.var 28), (.var 29), (.var 30), (.var 31)])))
 (.jump 1 [(.int .i64 (0)), (.int .i64 (0)), (.nil (.pair (.sl (.int .u8)) (.pair (.sl (.int .u8)) (.pair (.int .i64) (.pair (.int .i64) .unit))))), (.nil (.pair (.sl (.int .u8)) (.pair (.int .i64) .unit))), (.int .i64 (0)), (.nil (.pair (.int .i64) (.pair .bool .unit))), (.nil (.pair (.int .i64) (.pair (.int .i64) (.pair (.int .i64) (.pair (.int .i64) .unit))))), (.fld (.var 9) 0), (.fld (.var 9) 1), (.fld (.var 9) 2), (.var 13), (.fld (.var 9) 4), (.fld (.var 9) 5), (.fld (.var 16) 0), (.fld (.var 16) 1)]))))))))))))))))
/- loop.example/g00365/laws.FnExactStateRead -/
def sg6 : Sig := ⟨[.val], [(.bool, .sh)], true, none, false⟩
def hi6 : Hints := []
def ir6 : IR := (.letE ⟨.len, [(.var 0)]⟩
 (.letE ⟨(.bin .gtr 3), [(.var 1), (.int .i64 (1048576))]⟩
 (.ite (.var 2)
 (.ret [(.bool true)])
 (.call 10 [(.var 0)] 1
 (.call 30 [(.var 3)] 2
 (.letE ⟨(.all 6), [(.var 4)]⟩
 (.call 10 [(.var 0)] 1
 (.call 21 [(.var 7)] 2
 (.letE ⟨(.all 6), [(.var 8)]⟩
 (.letE ⟨.mk, [(.fld (.var 10) 0), (.fld (.var 10) 1), (.fld (.var 10) 2), (.fld (.var 10) 3), (.fld (.var 10) 4), (.fld (.var 10) 5)]⟩
 (.letE ⟨.mk, [(.fld (.var 6) 0), (.fld (.var 6) 1), (.fld (.var 6) 2), (.fld (.var 6) 3), (.fld (.var 6) 4), (.fld (.var 6) 5)]⟩
 (.call 31 [(.var 11), (.var 12)] 1
 (.letE ⟨(.un .not), [(.var 13)]⟩
 (.ite (.var 14)
 (.ret [(.bool false)])
 (.letE ⟨(.beq true), [(.var 9), (.var 5)]⟩
 (.ite (.var 15)
 (.ret [(.bool false)])
 (.call 10 [(.var 0)] 1
 (.call 13 [(.var 7), (.var 16)] 1
 (.letE ⟨(.un .not), [(.var 17)]⟩
 (.ite (.var 18)
 (.ret [(.bool false)])
 (.call 15 [(.int .i64 (1)), (.var 7)] 2
 (.letE ⟨(.bin .lss 3), [(.var 19), (.int .i64 (0))]⟩
 (.ite (.var 21)
 (.ret [(.bool false)])
 (.letE ⟨.mk, [(.fld (.var 10) 0), (.fld (.var 10) 1), (.fld (.var 10) 2), (.fld (.var 10) 3), (.fld (.var 10) 4), (.fld (.var 10) 5)]⟩
 (.letE ⟨.mk, [(.fld (.var 6) 0), (.fld (.var 6) 1), (.fld (.var 6) 2), (.fld (.var 6) 3), (.fld (.var 6) 4), (.fld (.var 6) 5)]⟩
 (.call 31 [(.var 22), (.var 23)] 1
 (.letE ⟨(.un .not), [(.var 24)]⟩
 (.ite (.var 25)
 (.ret [(.bool false)])
 (.letE ⟨(.beq true), [(.var 9), (.var 5)]⟩
 (.ite (.var 26)
 (.ret [(.bool false)])
 (.letE ⟨.mk, [(.fld (.var 10) 0), (.fld (.var 10) 1), (.fld (.var 10) 2), (.fld (.var 10) 3), (.fld (.var 10) 4), (.fld (.var 10) 5)]⟩
 (.call 32 [(.int .i64 (1)), (.var 27)] 2
 (.letE ⟨.mk, [(.fld (.var 29) 0), (.fld (.var 29) 1), (.fld (.var 29) 2), (.fld (.var 29) 3), (.fld (.var 29) 4), (.fld (.var 29) 5)]⟩
 (.call 33 [(.var 30), (.int .i64 (1))] 1
 (.letE ⟨(.bin .lss 3), [(.var 31), (.int .i64 (0))]⟩
 (.ite (.var 32)
 (.ret [(.bool false)])
 (.letE ⟨(.bin .neq 3), [(.var 31), (.var 28)]⟩
 (.ite (.var 33)
 (.ret [(.bool false)])
 (.call 10 [(.var 0)] 1
 (.call 21 [(.var 34)] 2
 (.letE ⟨(.all 6), [(.var 35)]⟩
 (.letE ⟨.mk, [(.fld (.var 37) 0), (.fld (.var 37) 1), (.fld (.var 37) 2), (.fld (.var 37) 3), (.fld (.var 37) 4), (.fld (.var 37) 5)]⟩
 (.letE ⟨.mk, [(.fld (.var 6) 0), (.fld (.var 6) 1), (.fld (.var 6) 2), (.fld (.var 6) 3), (.fld (.var 6) 4), (.fld (.var 6) 5)]⟩
 (.call 31 [(.var 38), (.var 39)] 1
 (.letE ⟨(.un .not), [(.var 40)]⟩
 (.ite (.var 41)
 (.ret [(.bool false)])
 (.letE ⟨(.beq true), [(.var 36), (.var 5)]⟩
 (.ite (.var 42)
 (.ret [(.bool false)])
 (.letE ⟨.mk, [(.fld (.var 29) 0), (.fld (.var 29) 1), (.fld (.var 29) 2), (.fld (.var 29) 3), (.fld (.var 29) 4), (.fld (.var 29) 5)]⟩
 (.call 33 [(.var 43), (.int .i64 (1))] 1
 (.letE ⟨(.bin .lss 3), [(.var 44), (.int .i64 (0))]⟩
 (.ite (.var 45)
 (.ret [(.bool false)])
 (.letE ⟨(.bin .neq 3), [(.var 44), (.var 28)]⟩
 (.ite (.var 46)
 (.ret [(.bool false)])
 (.ret [(.bool true)])))))))))))))))))))))))))))))))))))))))))))))))))))))))
def Sn : Nat → Option Sig := fun n => match n with
  | 63 => some sgCmp
  | _ => none
def Bn : Fns := fun n ds => match n with
  | 63 => cmpB ds
  | _ => none
set_option maxHeartbeats 8000000 in
theorem walk63 (A0 A1 : Option Addr) (n0 n1 c0 c1 : Nat) (r : Int) (w : World) (h : (Extern.BytealgCompare.compare #[.slice A0 n0 c0, .slice A1 n1 c1]).run Try.prog w = .ok (.int .i64 r) w) :
    Calls Try.prog 63 #[.slice A0 n0 c0, .slice A1 n1 c1] w fun e w' => e = .returned (.int .i64 r) ∧ Ext w w' [] := by
  go_enter Try.func63, Try.ntmps63
  go_wp2
  rw [run_callFunc_extern Try.func117 (by kernel_rfl) (by kernel_rfl) (by kernel_rfl) (e := Extern.BytealgCompare.compare) (by kernel_rfl), h]
  simp only [Result.andThen]
  rw [Oper.upon_value]
  go_wp2
  go_ret
  exact ⟨rfl, Ext.refl _ _⟩
theorem nat : ∀ f s, Sn f = some s → Con Try.prog Bn f s := by
  intro f s h
  unfold Sn at h
  split at h
  · simp only [Option.some.injEq] at h
    subst h
    exact con_cmp (fun _ => rfl) walk63
  · cases h
def T : Nat → Option (Sig × IR) := fun n => match n with
  | 96 => some (sg96, ir96)
  | 95 => some (sg95, ir95)
  | 49 => some (sg49, ir49)
  | 93 => some (sg93, ir93)
  | 92 => some (sg92, ir92)
  | 91 => some (sg91, ir91)
  | 15 => some (sg15, ir15)
  | 167 => some (sg167, ir167)
  | 151 => some (sg151, ir151)
  | 88 => some (sg88, ir88)
  | 150 => some (sg150, ir150)
  | 87 => some (sg87, ir87)
  | 13 => some (sg13, ir13)
  | 148 => some (sg148, ir148)
  | 85 => some (sg85, ir85)
  | 114 => some (sg114, ir114)
  | 112 => some (sg112, ir112)
  | 111 => some (sg111, ir111)
  | 69 => some (sg69, ir69)
  | 121 => some (sg121, ir121)
  | 119 => some (sg119, ir119)
  | 118 => some (sg118, ir118)
  | 64 => some (sg64, ir64)
  | 116 => some (sg116, ir116)
  | 61 => some (sg61, ir61)
  | 41 => some (sg41, ir41)
  | 107 => some (sg107, ir107)
  | 122 => some (sg122, ir122)
  | 66 => some (sg66, ir66)
  | 124 => some (sg124, ir124)
  | 59 => some (sg59, ir59)
  | 58 => some (sg58, ir58)
  | 57 => some (sg57, ir57)
  | 56 => some (sg56, ir56)
  | 55 => some (sg55, ir55)
  | 54 => some (sg54, ir54)
  | 19 => some (sg19, ir19)
  | 146 => some (sg146, ir146)
  | 83 => some (sg83, ir83)
  | 10 => some (sg10, ir10)
  | 94 => some (sg94, ir94)
  | 33 => some (sg33, ir33)
  | 90 => some (sg90, ir90)
  | 89 => some (sg89, ir89)
  | 32 => some (sg32, ir32)
  | 149 => some (sg149, ir149)
  | 86 => some (sg86, ir86)
  | 31 => some (sg31, ir31)
  | 113 => some (sg113, ir113)
  | 53 => some (sg53, ir53)
  | 120 => some (sg120, ir120)
  | 65 => some (sg65, ir65)
  | 115 => some (sg115, ir115)
  | 62 => some (sg62, ir62)
  | 60 => some (sg60, ir60)
  | 20 => some (sg20, ir20)
  | 123 => some (sg123, ir123)
  | 68 => some (sg68, ir68)
  | 67 => some (sg67, ir67)
  | 21 => some (sg21, ir21)
  | 126 => some (sg126, ir126)
  | 125 => some (sg125, ir125)
  | 70 => some (sg70, ir70)
  | 147 => some (sg147, ir147)
  | 84 => some (sg84, ir84)
  | 30 => some (sg30, ir30)
  | 6 => some (sg6, ir6)
  | _ => none
noncomputable abbrev Lv (N k : Nat) : Fns := level Sn Bn T N k
def Cs : Nat → Option Sig := shapes Sn T
theorem t96 : fnIR Try.prog Cs hi96 Try.f96 sg96 = some ir96 := by kernel_rfl
theorem t95 : fnIR Try.prog Cs hi95 Try.f95 sg95 = some ir95 := by kernel_rfl
theorem t49 : fnIR Try.prog Cs hi49 Try.f49 sg49 = some ir49 := by kernel_rfl
theorem t93 : fnIR Try.prog Cs hi93 Try.f93 sg93 = some ir93 := by kernel_rfl
theorem t92 : fnIR Try.prog Cs hi92 Try.f92 sg92 = some ir92 := by kernel_rfl
theorem t91 : fnIR Try.prog Cs hi91 Try.f91 sg91 = some ir91 := by kernel_rfl
theorem t15 : fnIR Try.prog Cs hi15 Try.f15 sg15 = some ir15 := by kernel_rfl
theorem t167 : fnIR Try.prog Cs hi167 Try.f167 sg167 = some ir167 := by kernel_rfl
theorem t151 : fnIR Try.prog Cs hi151 Try.f151 sg151 = some ir151 := by kernel_rfl
theorem t88 : fnIR Try.prog Cs hi88 Try.f88 sg88 = some ir88 := by kernel_rfl
theorem t150 : fnIR Try.prog Cs hi150 Try.f150 sg150 = some ir150 := by kernel_rfl
theorem t87 : fnIR Try.prog Cs hi87 Try.f87 sg87 = some ir87 := by kernel_rfl
theorem t13 : fnIR Try.prog Cs hi13 Try.f13 sg13 = some ir13 := by kernel_rfl
theorem t148 : fnIR Try.prog Cs hi148 Try.f148 sg148 = some ir148 := by kernel_rfl
theorem t85 : fnIR Try.prog Cs hi85 Try.f85 sg85 = some ir85 := by kernel_rfl
theorem t114 : fnIR Try.prog Cs hi114 Try.f114 sg114 = some ir114 := by kernel_rfl
theorem t112 : fnIR Try.prog Cs hi112 Try.f112 sg112 = some ir112 := by kernel_rfl
theorem t111 : fnIR Try.prog Cs hi111 Try.f111 sg111 = some ir111 := by kernel_rfl
theorem t69 : fnIR Try.prog Cs hi69 Try.f69 sg69 = some ir69 := by kernel_rfl
theorem t121 : fnIR Try.prog Cs hi121 Try.f121 sg121 = some ir121 := by kernel_rfl
theorem t119 : fnIR Try.prog Cs hi119 Try.f119 sg119 = some ir119 := by kernel_rfl
theorem t118 : fnIR Try.prog Cs hi118 Try.f118 sg118 = some ir118 := by kernel_rfl
theorem t64 : fnIR Try.prog Cs hi64 Try.f64 sg64 = some ir64 := by kernel_rfl
theorem t116 : fnIR Try.prog Cs hi116 Try.f116 sg116 = some ir116 := by kernel_rfl
theorem t61 : fnIR Try.prog Cs hi61 Try.f61 sg61 = some ir61 := by kernel_rfl
theorem t41 : fnIR Try.prog Cs hi41 Try.f41 sg41 = some ir41 := by kernel_rfl
theorem t107 : fnIR Try.prog Cs hi107 Try.f107 sg107 = some ir107 := by kernel_rfl
theorem t122 : fnIR Try.prog Cs hi122 Try.f122 sg122 = some ir122 := by kernel_rfl
theorem t66 : fnIR Try.prog Cs hi66 Try.f66 sg66 = some ir66 := by kernel_rfl
theorem t124 : fnIR Try.prog Cs hi124 Try.f124 sg124 = some ir124 := by kernel_rfl
theorem t59 : fnIR Try.prog Cs hi59 Try.f59 sg59 = some ir59 := by kernel_rfl
theorem t58 : fnIR Try.prog Cs hi58 Try.f58 sg58 = some ir58 := by kernel_rfl
theorem t57 : fnIR Try.prog Cs hi57 Try.f57 sg57 = some ir57 := by kernel_rfl
theorem t56 : fnIR Try.prog Cs hi56 Try.f56 sg56 = some ir56 := by kernel_rfl
theorem t55 : fnIR Try.prog Cs hi55 Try.f55 sg55 = some ir55 := by kernel_rfl
theorem t54 : fnIR Try.prog Cs hi54 Try.f54 sg54 = some ir54 := by kernel_rfl
theorem t19 : fnIR Try.prog Cs hi19 Try.f19 sg19 = some ir19 := by kernel_rfl
theorem t146 : fnIR Try.prog Cs hi146 Try.f146 sg146 = some ir146 := by kernel_rfl
theorem t83 : fnIR Try.prog Cs hi83 Try.f83 sg83 = some ir83 := by kernel_rfl
theorem t10 : fnIR Try.prog Cs hi10 Try.f10 sg10 = some ir10 := by kernel_rfl
theorem t94 : fnIR Try.prog Cs hi94 Try.f94 sg94 = some ir94 := by kernel_rfl
theorem t33 : fnIR Try.prog Cs hi33 Try.f33 sg33 = some ir33 := by kernel_rfl
theorem t90 : fnIR Try.prog Cs hi90 Try.f90 sg90 = some ir90 := by kernel_rfl
theorem t89 : fnIR Try.prog Cs hi89 Try.f89 sg89 = some ir89 := by kernel_rfl
theorem t32 : fnIR Try.prog Cs hi32 Try.f32 sg32 = some ir32 := by kernel_rfl
theorem t149 : fnIR Try.prog Cs hi149 Try.f149 sg149 = some ir149 := by kernel_rfl
theorem t86 : fnIR Try.prog Cs hi86 Try.f86 sg86 = some ir86 := by kernel_rfl
theorem t31 : fnIR Try.prog Cs hi31 Try.f31 sg31 = some ir31 := by kernel_rfl
theorem t113 : fnIR Try.prog Cs hi113 Try.f113 sg113 = some ir113 := by kernel_rfl
theorem t53 : fnIR Try.prog Cs hi53 Try.f53 sg53 = some ir53 := by kernel_rfl
theorem t120 : fnIR Try.prog Cs hi120 Try.f120 sg120 = some ir120 := by kernel_rfl
theorem t65 : fnIR Try.prog Cs hi65 Try.f65 sg65 = some ir65 := by kernel_rfl
theorem t115 : fnIR Try.prog Cs hi115 Try.f115 sg115 = some ir115 := by kernel_rfl
theorem t62 : fnIR Try.prog Cs hi62 Try.f62 sg62 = some ir62 := by kernel_rfl
theorem t60 : fnIR Try.prog Cs hi60 Try.f60 sg60 = some ir60 := by kernel_rfl
theorem t20 : fnIR Try.prog Cs hi20 Try.f20 sg20 = some ir20 := by kernel_rfl
theorem t123 : fnIR Try.prog Cs hi123 Try.f123 sg123 = some ir123 := by kernel_rfl
theorem t68 : fnIR Try.prog Cs hi68 Try.f68 sg68 = some ir68 := by kernel_rfl
theorem t67 : fnIR Try.prog Cs hi67 Try.f67 sg67 = some ir67 := by kernel_rfl
theorem t21 : fnIR Try.prog Cs hi21 Try.f21 sg21 = some ir21 := by kernel_rfl
theorem t126 : fnIR Try.prog Cs hi126 Try.f126 sg126 = some ir126 := by kernel_rfl
theorem t125 : fnIR Try.prog Cs hi125 Try.f125 sg125 = some ir125 := by kernel_rfl
theorem t70 : fnIR Try.prog Cs hi70 Try.f70 sg70 = some ir70 := by kernel_rfl
theorem t147 : fnIR Try.prog Cs hi147 Try.f147 sg147 = some ir147 := by kernel_rfl
theorem t84 : fnIR Try.prog Cs hi84 Try.f84 sg84 = some ir84 := by kernel_rfl
theorem t30 : fnIR Try.prog Cs hi30 Try.f30 sg30 = some ir30 := by kernel_rfl
theorem t6 : fnIR Try.prog Cs hi6 Try.f6 sg6 = some ir6 := by kernel_rfl
theorem tab : ∀ f s ir, T f = some (s, ir) → ∃ fn H, Try.prog.funcs[f]? = some fn ∧ fnIR Try.prog (shapes Sn T) H fn s = some ir := by
  intro f s ir h
  unfold T at h
  split at h
  · simp only [Option.some.injEq, Prod.mk.injEq] at h
    obtain ⟨rfl, rfl⟩ := h
    exact ⟨Try.f96, hi96, Try.func96, t96⟩
  · simp only [Option.some.injEq, Prod.mk.injEq] at h
    obtain ⟨rfl, rfl⟩ := h
    exact ⟨Try.f95, hi95, Try.func95, t95⟩
  · simp only [Option.some.injEq, Prod.mk.injEq] at h
    obtain ⟨rfl, rfl⟩ := h
    exact ⟨Try.f49, hi49, Try.func49, t49⟩
  · simp only [Option.some.injEq, Prod.mk.injEq] at h
    obtain ⟨rfl, rfl⟩ := h
    exact ⟨Try.f93, hi93, Try.func93, t93⟩
  · simp only [Option.some.injEq, Prod.mk.injEq] at h
    obtain ⟨rfl, rfl⟩ := h
    exact ⟨Try.f92, hi92, Try.func92, t92⟩
  · simp only [Option.some.injEq, Prod.mk.injEq] at h
    obtain ⟨rfl, rfl⟩ := h
    exact ⟨Try.f91, hi91, Try.func91, t91⟩
  · simp only [Option.some.injEq, Prod.mk.injEq] at h
    obtain ⟨rfl, rfl⟩ := h
    exact ⟨Try.f15, hi15, Try.func15, t15⟩
  · simp only [Option.some.injEq, Prod.mk.injEq] at h
    obtain ⟨rfl, rfl⟩ := h
    exact ⟨Try.f167, hi167, Try.func167, t167⟩
  · simp only [Option.some.injEq, Prod.mk.injEq] at h
    obtain ⟨rfl, rfl⟩ := h
    exact ⟨Try.f151, hi151, Try.func151, t151⟩
  · simp only [Option.some.injEq, Prod.mk.injEq] at h
    obtain ⟨rfl, rfl⟩ := h
    exact ⟨Try.f88, hi88, Try.func88, t88⟩
  · simp only [Option.some.injEq, Prod.mk.injEq] at h
    obtain ⟨rfl, rfl⟩ := h
    exact ⟨Try.f150, hi150, Try.func150, t150⟩
  · simp only [Option.some.injEq, Prod.mk.injEq] at h
    obtain ⟨rfl, rfl⟩ := h
    exact ⟨Try.f87, hi87, Try.func87, t87⟩
  · simp only [Option.some.injEq, Prod.mk.injEq] at h
    obtain ⟨rfl, rfl⟩ := h
    exact ⟨Try.f13, hi13, Try.func13, t13⟩
  · simp only [Option.some.injEq, Prod.mk.injEq] at h
    obtain ⟨rfl, rfl⟩ := h
    exact ⟨Try.f148, hi148, Try.func148, t148⟩
  · simp only [Option.some.injEq, Prod.mk.injEq] at h
    obtain ⟨rfl, rfl⟩ := h
    exact ⟨Try.f85, hi85, Try.func85, t85⟩
  · simp only [Option.some.injEq, Prod.mk.injEq] at h
    obtain ⟨rfl, rfl⟩ := h
    exact ⟨Try.f114, hi114, Try.func114, t114⟩
  · simp only [Option.some.injEq, Prod.mk.injEq] at h
    obtain ⟨rfl, rfl⟩ := h
    exact ⟨Try.f112, hi112, Try.func112, t112⟩
  · simp only [Option.some.injEq, Prod.mk.injEq] at h
    obtain ⟨rfl, rfl⟩ := h
    exact ⟨Try.f111, hi111, Try.func111, t111⟩
  · simp only [Option.some.injEq, Prod.mk.injEq] at h
    obtain ⟨rfl, rfl⟩ := h
    exact ⟨Try.f69, hi69, Try.func69, t69⟩
  · simp only [Option.some.injEq, Prod.mk.injEq] at h
    obtain ⟨rfl, rfl⟩ := h
    exact ⟨Try.f121, hi121, Try.func121, t121⟩
  · simp only [Option.some.injEq, Prod.mk.injEq] at h
    obtain ⟨rfl, rfl⟩ := h
    exact ⟨Try.f119, hi119, Try.func119, t119⟩
  · simp only [Option.some.injEq, Prod.mk.injEq] at h
    obtain ⟨rfl, rfl⟩ := h
    exact ⟨Try.f118, hi118, Try.func118, t118⟩
  · simp only [Option.some.injEq, Prod.mk.injEq] at h
    obtain ⟨rfl, rfl⟩ := h
    exact ⟨Try.f64, hi64, Try.func64, t64⟩
  · simp only [Option.some.injEq, Prod.mk.injEq] at h
    obtain ⟨rfl, rfl⟩ := h
    exact ⟨Try.f116, hi116, Try.func116, t116⟩
  · simp only [Option.some.injEq, Prod.mk.injEq] at h
    obtain ⟨rfl, rfl⟩ := h
    exact ⟨Try.f61, hi61, Try.func61, t61⟩
  · simp only [Option.some.injEq, Prod.mk.injEq] at h
    obtain ⟨rfl, rfl⟩ := h
    exact ⟨Try.f41, hi41, Try.func41, t41⟩
  · simp only [Option.some.injEq, Prod.mk.injEq] at h
    obtain ⟨rfl, rfl⟩ := h
    exact ⟨Try.f107, hi107, Try.func107, t107⟩
  · simp only [Option.some.injEq, Prod.mk.injEq] at h
    obtain ⟨rfl, rfl⟩ := h
    exact ⟨Try.f122, hi122, Try.func122, t122⟩
  · simp only [Option.some.injEq, Prod.mk.injEq] at h
    obtain ⟨rfl, rfl⟩ := h
    exact ⟨Try.f66, hi66, Try.func66, t66⟩
  · simp only [Option.some.injEq, Prod.mk.injEq] at h
    obtain ⟨rfl, rfl⟩ := h
    exact ⟨Try.f124, hi124, Try.func124, t124⟩
  · simp only [Option.some.injEq, Prod.mk.injEq] at h
    obtain ⟨rfl, rfl⟩ := h
    exact ⟨Try.f59, hi59, Try.func59, t59⟩
  · simp only [Option.some.injEq, Prod.mk.injEq] at h
    obtain ⟨rfl, rfl⟩ := h
    exact ⟨Try.f58, hi58, Try.func58, t58⟩
  · simp only [Option.some.injEq, Prod.mk.injEq] at h
    obtain ⟨rfl, rfl⟩ := h
    exact ⟨Try.f57, hi57, Try.func57, t57⟩
  · simp only [Option.some.injEq, Prod.mk.injEq] at h
    obtain ⟨rfl, rfl⟩ := h
    exact ⟨Try.f56, hi56, Try.func56, t56⟩
  · simp only [Option.some.injEq, Prod.mk.injEq] at h
    obtain ⟨rfl, rfl⟩ := h
    exact ⟨Try.f55, hi55, Try.func55, t55⟩
  · simp only [Option.some.injEq, Prod.mk.injEq] at h
    obtain ⟨rfl, rfl⟩ := h
    exact ⟨Try.f54, hi54, Try.func54, t54⟩
  · simp only [Option.some.injEq, Prod.mk.injEq] at h
    obtain ⟨rfl, rfl⟩ := h
    exact ⟨Try.f19, hi19, Try.func19, t19⟩
  · simp only [Option.some.injEq, Prod.mk.injEq] at h
    obtain ⟨rfl, rfl⟩ := h
    exact ⟨Try.f146, hi146, Try.func146, t146⟩
  · simp only [Option.some.injEq, Prod.mk.injEq] at h
    obtain ⟨rfl, rfl⟩ := h
    exact ⟨Try.f83, hi83, Try.func83, t83⟩
  · simp only [Option.some.injEq, Prod.mk.injEq] at h
    obtain ⟨rfl, rfl⟩ := h
    exact ⟨Try.f10, hi10, Try.func10, t10⟩
  · simp only [Option.some.injEq, Prod.mk.injEq] at h
    obtain ⟨rfl, rfl⟩ := h
    exact ⟨Try.f94, hi94, Try.func94, t94⟩
  · simp only [Option.some.injEq, Prod.mk.injEq] at h
    obtain ⟨rfl, rfl⟩ := h
    exact ⟨Try.f33, hi33, Try.func33, t33⟩
  · simp only [Option.some.injEq, Prod.mk.injEq] at h
    obtain ⟨rfl, rfl⟩ := h
    exact ⟨Try.f90, hi90, Try.func90, t90⟩
  · simp only [Option.some.injEq, Prod.mk.injEq] at h
    obtain ⟨rfl, rfl⟩ := h
    exact ⟨Try.f89, hi89, Try.func89, t89⟩
  · simp only [Option.some.injEq, Prod.mk.injEq] at h
    obtain ⟨rfl, rfl⟩ := h
    exact ⟨Try.f32, hi32, Try.func32, t32⟩
  · simp only [Option.some.injEq, Prod.mk.injEq] at h
    obtain ⟨rfl, rfl⟩ := h
    exact ⟨Try.f149, hi149, Try.func149, t149⟩
  · simp only [Option.some.injEq, Prod.mk.injEq] at h
    obtain ⟨rfl, rfl⟩ := h
    exact ⟨Try.f86, hi86, Try.func86, t86⟩
  · simp only [Option.some.injEq, Prod.mk.injEq] at h
    obtain ⟨rfl, rfl⟩ := h
    exact ⟨Try.f31, hi31, Try.func31, t31⟩
  · simp only [Option.some.injEq, Prod.mk.injEq] at h
    obtain ⟨rfl, rfl⟩ := h
    exact ⟨Try.f113, hi113, Try.func113, t113⟩
  · simp only [Option.some.injEq, Prod.mk.injEq] at h
    obtain ⟨rfl, rfl⟩ := h
    exact ⟨Try.f53, hi53, Try.func53, t53⟩
  · simp only [Option.some.injEq, Prod.mk.injEq] at h
    obtain ⟨rfl, rfl⟩ := h
    exact ⟨Try.f120, hi120, Try.func120, t120⟩
  · simp only [Option.some.injEq, Prod.mk.injEq] at h
    obtain ⟨rfl, rfl⟩ := h
    exact ⟨Try.f65, hi65, Try.func65, t65⟩
  · simp only [Option.some.injEq, Prod.mk.injEq] at h
    obtain ⟨rfl, rfl⟩ := h
    exact ⟨Try.f115, hi115, Try.func115, t115⟩
  · simp only [Option.some.injEq, Prod.mk.injEq] at h
    obtain ⟨rfl, rfl⟩ := h
    exact ⟨Try.f62, hi62, Try.func62, t62⟩
  · simp only [Option.some.injEq, Prod.mk.injEq] at h
    obtain ⟨rfl, rfl⟩ := h
    exact ⟨Try.f60, hi60, Try.func60, t60⟩
  · simp only [Option.some.injEq, Prod.mk.injEq] at h
    obtain ⟨rfl, rfl⟩ := h
    exact ⟨Try.f20, hi20, Try.func20, t20⟩
  · simp only [Option.some.injEq, Prod.mk.injEq] at h
    obtain ⟨rfl, rfl⟩ := h
    exact ⟨Try.f123, hi123, Try.func123, t123⟩
  · simp only [Option.some.injEq, Prod.mk.injEq] at h
    obtain ⟨rfl, rfl⟩ := h
    exact ⟨Try.f68, hi68, Try.func68, t68⟩
  · simp only [Option.some.injEq, Prod.mk.injEq] at h
    obtain ⟨rfl, rfl⟩ := h
    exact ⟨Try.f67, hi67, Try.func67, t67⟩
  · simp only [Option.some.injEq, Prod.mk.injEq] at h
    obtain ⟨rfl, rfl⟩ := h
    exact ⟨Try.f21, hi21, Try.func21, t21⟩
  · simp only [Option.some.injEq, Prod.mk.injEq] at h
    obtain ⟨rfl, rfl⟩ := h
    exact ⟨Try.f126, hi126, Try.func126, t126⟩
  · simp only [Option.some.injEq, Prod.mk.injEq] at h
    obtain ⟨rfl, rfl⟩ := h
    exact ⟨Try.f125, hi125, Try.func125, t125⟩
  · simp only [Option.some.injEq, Prod.mk.injEq] at h
    obtain ⟨rfl, rfl⟩ := h
    exact ⟨Try.f70, hi70, Try.func70, t70⟩
  · simp only [Option.some.injEq, Prod.mk.injEq] at h
    obtain ⟨rfl, rfl⟩ := h
    exact ⟨Try.f147, hi147, Try.func147, t147⟩
  · simp only [Option.some.injEq, Prod.mk.injEq] at h
    obtain ⟨rfl, rfl⟩ := h
    exact ⟨Try.f84, hi84, Try.func84, t84⟩
  · simp only [Option.some.injEq, Prod.mk.injEq] at h
    obtain ⟨rfl, rfl⟩ := h
    exact ⟨Try.f30, hi30, Try.func30, t30⟩
  · simp only [Option.some.injEq, Prod.mk.injEq] at h
    obtain ⟨rfl, rfl⟩ := h
    exact ⟨Try.f6, hi6, Try.func6, t6⟩
  · cases h
theorem con (N k f : Nat) (s : Sig) (h : shapes Sn T f = some s) : Con Try.prog (Lv N k) f s := level_con (by kernel_rfl) nat tab k f s h
end Go.Proofs.Ytecleaangfcloab.VtFnExactStateRead
