/- The functions that FnExactBehind reaches, as texts of the language of values, and that these are what the code says. Definitions and lemmas, no statement. -/
import Derived.Test.YtecleaangfcloaaProg
import Derived.Test.YtecleaangfcloaaVmNat
import Derived.KernelRfl
import Derived.WalkKit
import Derived.Tactics
namespace Go.Proofs.Ytecleaangfcloaa.VtFnExactBehind
open Go.Vm Go.RowKit
set_option maxRecDepth 100000
set_option linter.unusedVariables false
set_option linter.unusedSimpArgs false
/- loop.example/g00365/laws.heldIntS -/
def sg32 : Sig := ⟨[.val, .val], [((.int .i64), .sh)], true, none, false⟩
def hi32 : Hints := [((0, 2), ⟨[(4, .sh), (1, .sh), (5, .sh)], [], []⟩)]
def ir32 : IR := (.label true
 (.letE ⟨.len, [(.var 0)]⟩
 (.letE ⟨(.bin .lss 3), [(.var 4), (.var 5)]⟩
 (.ite (.var 6)
 (.letE ⟨(.idx 1), [(.var 0), (.var 4)]⟩
 (.letE ⟨.a, [(.fld (.var 7) 0)]⟩
 (.letE ⟨(.bin .neq 3), [(.var 8), (.var 3)]⟩
 (.ite (.var 9)
 (.ret [(.int .i64 (-1))])
 (.letE ⟨(.bin .add 3), [(.var 3), (.int .i64 (1))]⟩
 (.letE ⟨(.bin .add 3), [(.var 4), (.int .i64 (1))]⟩
 (.jump 0 [(.var 2), (.var 10), (.var 11)])))))))
 (.ret [(.var 3)]))))
 (.jump 0 [(.int .i64 (0)), (.var 1), (.int .i64 (0))]))
/- loop.example/g00365/laws.markIntS -/
def sg31 : Sig := ⟨[.val], [((.int .i64), .sh)], true, some (0, .row (.sl (.int .i64))), false⟩
def hi31 : Hints := [((0, 2), ⟨[(1, .sh), (5, .sh), (0, (.own .sh))], [], []⟩)]
def ir31 : IR := (.label true
 (.letE ⟨.len, [(.var 4)]⟩
 (.letE ⟨(.bin .lss 3), [(.var 3), (.var 5)]⟩
 (.ite (.var 6)
 (.letE ⟨(.idx 1), [(.var 4), (.var 3)]⟩
 (.letE ⟨(.setE 1), [(.var 4), (.var 3), (.var 2)]⟩
 (.letE ⟨(.bin .add 3), [(.var 2), (.int .i64 (1))]⟩
 (.letE ⟨(.bin .add 3), [(.var 3), (.int .i64 (1))]⟩
 (.jump 0 [(.var 9), (.var 10), (.var 8)])))))
 (.ret [(.var 2), (.var 4)]))))
 (.jump 0 [(.var 0), (.int .i64 (0)), (.var 1)]))
/- loop.example/g00365/laws.markBoolS -/
def sg86 : Sig := ⟨[.val], [((.int .i64), .sh)], true, some (0, .row (.sl .bool)), false⟩
def hi86 : Hints := [((0, 2), ⟨[(1, .sh), (5, .sh), (0, (.own .sh))], [], []⟩)]
def ir86 : IR := (.label true
 (.letE ⟨.len, [(.var 4)]⟩
 (.letE ⟨(.bin .lss 3), [(.var 3), (.var 5)]⟩
 (.ite (.var 6)
 (.letE ⟨(.bin .rem 3), [(.var 2), (.int .i64 (3))]⟩
 (.letE ⟨(.bin .eql 3), [(.var 7), (.int .i64 (0))]⟩
 (.letE ⟨(.idx 1), [(.var 4), (.var 3)]⟩
 (.letE ⟨(.setE 1), [(.var 4), (.var 3), (.var 8)]⟩
 (.letE ⟨(.bin .add 3), [(.var 2), (.int .i64 (1))]⟩
 (.letE ⟨(.bin .add 3), [(.var 3), (.int .i64 (1))]⟩
 (.jump 0 [(.var 11), (.var 12), (.var 10)])))))))
 (.ret [(.var 2), (.var 4)]))))
 (.jump 0 [(.var 0), (.int .i64 (0)), (.var 1)]))
/- loop.example/g00365/laws.markByteS -/
def sg98 : Sig := ⟨[.val], [((.int .i64), .sh)], true, some (0, .row (.sl (.int .u8))), false⟩
def hi98 : Hints := [((0, 2), ⟨[(1, .sh), (5, .sh), (0, (.own .sh))], [], []⟩)]
def ir98 : IR := (.label true
 (.letE ⟨.len, [(.var 4)]⟩
 (.letE ⟨(.bin .lss 3), [(.var 3), (.var 5)]⟩
 (.ite (.var 6)
 (.letE ⟨(.conv .u8), [(.var 2)]⟩
 (.letE ⟨(.idx 1), [(.var 4), (.var 3)]⟩
 (.letE ⟨(.setE 1), [(.var 4), (.var 3), (.var 7)]⟩
 (.letE ⟨(.bin .add 3), [(.var 2), (.int .i64 (1))]⟩
 (.letE ⟨(.bin .add 3), [(.var 3), (.int .i64 (1))]⟩
 (.jump 0 [(.var 10), (.var 11), (.var 9)]))))))
 (.ret [(.var 2), (.var 4)]))))
 (.jump 0 [(.var 0), (.int .i64 (0)), (.var 1)]))
/- loop.example/g00365/laws.markItemS -/
def sg85 : Sig := ⟨[.val], [((.int .i64), .sh)], true, some (0, .row (.sl (.pair (.int .i64) (.pair (.int .i64) (.pair (.int .i64) (.pair (.int .i64) (.pair (.sl (.int .u8)) (.pair (.sl (.int .u8)) (.pair (.int .i64) .unit))))))))), false⟩
def hi85 : Hints := [((0, 2), ⟨[(1, .sh), (5, .sh), (0, (.own (.pair .sh (.pair .sh (.pair .sh (.pair .sh (.pair (.own .sh) (.pair (.own .sh) .sh))))))))], [], []⟩)]
def ir85 : IR := (.label true
 (.letE ⟨.len, [(.var 4)]⟩
 (.letE ⟨(.bin .lss 3), [(.var 3), (.var 5)]⟩
 (.ite (.var 6)
 (.letE ⟨(.idx 7), [(.var 4), (.var 3)]⟩
 (.letE ⟨(.set 7 0 1), [(.var 4), (.var 3), (.var 2)]⟩
 (.letE ⟨(.bin .add 3), [(.var 2), (.int .i64 (1))]⟩
 (.letE ⟨(.idx 7), [(.var 8), (.var 3)]⟩
 (.letE ⟨(.set 7 1 1), [(.var 8), (.var 3), (.var 9)]⟩
 (.letE ⟨(.bin .add 3), [(.var 9), (.int .i64 (1))]⟩
 (.letE ⟨(.idx 7), [(.var 11), (.var 3)]⟩
 (.letE ⟨(.set 7 2 1), [(.var 11), (.var 3), (.var 12)]⟩
 (.letE ⟨(.bin .add 3), [(.var 12), (.int .i64 (1))]⟩
 (.letE ⟨(.idx 7), [(.var 14), (.var 3)]⟩
 (.letE ⟨(.set 7 3 1), [(.var 14), (.var 3), (.var 15)]⟩
 (.letE ⟨(.bin .add 3), [(.var 15), (.int .i64 (1))]⟩
 (.letE ⟨(.idx 7), [(.var 17), (.var 3)]⟩
 (.letE ⟨(.idx 7), [(.var 17), (.var 3)]⟩
 (.letE ⟨.a, [(.fld (.var 20) 4)]⟩
 (.letE ⟨(.idx 7), [(.var 17), (.var 3)]⟩
 (.call 98 [(.var 18), (.fld (.var 22) 4)] 2
 (.letE ⟨(.set 7 4 1), [(.var 17), (.var 3), (.var 24)]⟩
 (.letE ⟨(.idx 7), [(.var 25), (.var 3)]⟩
 (.letE ⟨(.idx 7), [(.var 25), (.var 3)]⟩
 (.letE ⟨.a, [(.fld (.var 27) 5)]⟩
 (.letE ⟨(.idx 7), [(.var 25), (.var 3)]⟩
 (.call 98 [(.var 23), (.fld (.var 29) 5)] 2
 (.letE ⟨(.set 7 5 1), [(.var 25), (.var 3), (.var 31)]⟩
 (.letE ⟨(.idx 7), [(.var 32), (.var 3)]⟩
 (.letE ⟨(.set 7 6 1), [(.var 32), (.var 3), (.var 30)]⟩
 (.letE ⟨(.bin .add 3), [(.var 30), (.int .i64 (1))]⟩
 (.letE ⟨(.bin .add 3), [(.var 3), (.int .i64 (1))]⟩
 (.jump 0 [(.var 35), (.var 36), (.var 34)])))))))))))))))))))))))))))))
 (.ret [(.var 2), (.var 4)]))))
 (.jump 0 [(.var 0), (.int .i64 (0)), (.var 1)]))
/- loop.example/g00365/laws.markNode -/
def sg30 : Sig := ⟨[.val], [((.int .i64), .sh)], true, some (0, .row (.pair (.int .i64) (.pair (.int .i64) (.pair (.int .i64) (.pair (.sl (.pair (.int .i64) (.pair (.int .i64) (.pair (.int .i64) (.pair (.int .i64) (.pair (.sl (.int .u8)) (.pair (.sl (.int .u8)) (.pair (.int .i64) .unit)))))))) (.pair (.int .i64) (.pair (.int .i64) (.pair (.int .i64) (.pair (.int .i64) (.pair (.sl .bool) (.pair (.sl (.int .i64)) (.pair (.sl (.int .i64)) .unit)))))))))))), false⟩
def hi30 : Hints := []
def ir30 : IR := (.letE ⟨(.all 11), [(.var 1)]⟩
 (.letE ⟨.len, [(.fld (.var 2) 3)]⟩
 (.call 85 [(.var 0), (.fld (.var 2) 3)] 2
 (.letE ⟨.len, [(.fld (.var 2) 8)]⟩
 (.call 86 [(.var 4), (.fld (.var 2) 8)] 2
 (.letE ⟨.len, [(.fld (.var 2) 9)]⟩
 (.call 31 [(.var 7), (.fld (.var 2) 9)] 2
 (.letE ⟨.len, [(.fld (.var 2) 10)]⟩
 (.call 31 [(.var 10), (.fld (.var 2) 10)] 2
 (.letE ⟨.mk, [(.fld (.var 2) 0), (.fld (.var 2) 1), (.fld (.var 2) 2), (.var 5), (.fld (.var 2) 4), (.fld (.var 2) 5), (.fld (.var 2) 6), (.fld (.var 2) 7), (.var 8), (.var 11), (.var 14)]⟩
 (.ret [(.var 13), (.var 15)])))))))))))
/- loop.example/g00365/laws.eqBoolS -/
def sg82 : Sig := ⟨[.val, .val], [(.bool, .sh)], true, none, false⟩
def hi82 : Hints := [((0, 4), ⟨[(4, .sh), (5, .sh)], [], []⟩)]
def ir82 : IR := (.letE ⟨.len, [(.var 0)]⟩
 (.letE ⟨.len, [(.var 1)]⟩
 (.letE ⟨(.bin .neq 3), [(.var 2), (.var 3)]⟩
 (.ite (.var 4)
 (.ret [(.bool false)])
 (.label true
 (.letE ⟨.len, [(.var 0)]⟩
 (.letE ⟨(.bin .lss 3), [(.var 6), (.var 7)]⟩
 (.ite (.var 8)
 (.letE ⟨(.idx 1), [(.var 0), (.var 6)]⟩
 (.letE ⟨.a, [(.fld (.var 9) 0)]⟩
 (.letE ⟨(.idx 1), [(.var 1), (.var 6)]⟩
 (.letE ⟨.a, [(.fld (.var 11) 0)]⟩
 (.letE ⟨(.beq true), [(.var 10), (.var 12)]⟩
 (.ite (.var 13)
 (.ret [(.bool false)])
 (.letE ⟨(.bin .add 3), [(.var 6), (.int .i64 (1))]⟩
 (.jump 0 [(.var 5), (.var 14)]))))))))
 (.ret [(.bool true)]))))
 (.jump 0 [(.bool false), (.int .i64 (0))]))))))
/- loop.example/g00365/laws.eqByteS -/
def sg96 : Sig := ⟨[.val, .val], [(.bool, .sh)], true, none, false⟩
def hi96 : Hints := [((0, 4), ⟨[(4, .sh), (5, .sh)], [], []⟩)]
def ir96 : IR := (.letE ⟨.len, [(.var 0)]⟩
 (.letE ⟨.len, [(.var 1)]⟩
 (.letE ⟨(.bin .neq 3), [(.var 2), (.var 3)]⟩
 (.ite (.var 4)
 (.ret [(.bool false)])
 (.label true
 (.letE ⟨.len, [(.var 0)]⟩
 (.letE ⟨(.bin .lss 3), [(.var 6), (.var 7)]⟩
 (.ite (.var 8)
 (.letE ⟨(.idx 1), [(.var 0), (.var 6)]⟩
 (.letE ⟨.a, [(.fld (.var 9) 0)]⟩
 (.letE ⟨(.idx 1), [(.var 1), (.var 6)]⟩
 (.letE ⟨.a, [(.fld (.var 11) 0)]⟩
 (.letE ⟨(.bin .neq 5), [(.var 10), (.var 12)]⟩
 (.ite (.var 13)
 (.ret [(.bool false)])
 (.letE ⟨(.bin .add 3), [(.var 6), (.int .i64 (1))]⟩
 (.jump 0 [(.var 5), (.var 14)]))))))))
 (.ret [(.bool true)]))))
 (.jump 0 [(.bool false), (.int .i64 (0))]))))))
/- loop.example/g00365/laws.eqOp -/
def sg205 : Sig := ⟨[.val, .val], [(.bool, .sh)], true, none, false⟩
def hi205 : Hints := []
def ir205 : IR := (.letE ⟨(.all 4), [(.var 0)]⟩
 (.letE ⟨(.all 4), [(.var 1)]⟩
 (.letE ⟨(.bin .neq 3), [(.fld (.var 2) 0), (.fld (.var 3) 0)]⟩
 (.ite (.var 4)
 (.ret [(.bool false)])
 (.call 96 [(.fld (.var 2) 1), (.fld (.var 3) 1)] 1
 (.letE ⟨(.un .not), [(.var 5)]⟩
 (.ite (.var 6)
 (.ret [(.bool false)])
 (.call 96 [(.fld (.var 2) 2), (.fld (.var 3) 2)] 1
 (.letE ⟨(.un .not), [(.var 7)]⟩
 (.ite (.var 8)
 (.ret [(.bool false)])
 (.letE ⟨(.bin .neq 3), [(.fld (.var 2) 3), (.fld (.var 3) 3)]⟩
 (.ite (.var 9)
 (.ret [(.bool false)])
 (.ret [(.bool true)])))))))))))))
/- loop.example/g00365/laws.eqCmd -/
def sg187 : Sig := ⟨[.val, .val], [(.bool, .sh)], true, none, false⟩
def hi187 : Hints := []
def ir187 : IR := (.letE ⟨(.all 6), [(.var 0)]⟩
 (.letE ⟨(.all 6), [(.var 1)]⟩
 (.letE ⟨(.bin .neq 3), [(.fld (.var 2) 0), (.fld (.var 3) 0)]⟩
 (.ite (.var 4)
 (.ret [(.bool false)])
 (.letE ⟨(.bin .neq 3), [(.fld (.var 2) 1), (.fld (.var 3) 1)]⟩
 (.ite (.var 5)
 (.ret [(.bool false)])
 (.letE ⟨.mk, [(.fld (.var 2) 2), (.fld (.var 2) 3), (.fld (.var 2) 4), (.fld (.var 2) 5)]⟩
 (.letE ⟨.mk, [(.fld (.var 3) 2), (.fld (.var 3) 3), (.fld (.var 3) 4), (.fld (.var 3) 5)]⟩
 (.call 205 [(.var 6), (.var 7)] 1
 (.letE ⟨(.un .not), [(.var 8)]⟩
 (.ite (.var 9)
 (.ret [(.bool false)])
 (.ret [(.bool true)]))))))))))))
/- loop.example/g00365/laws.eqItem -/
def sg142 : Sig := ⟨[.val, .val], [(.bool, .sh)], true, none, false⟩
def hi142 : Hints := []
def ir142 : IR := (.letE ⟨(.all 7), [(.var 0)]⟩
 (.letE ⟨(.all 7), [(.var 1)]⟩
 (.letE ⟨(.bin .neq 3), [(.fld (.var 2) 0), (.fld (.var 3) 0)]⟩
 (.ite (.var 4)
 (.ret [(.bool false)])
 (.letE ⟨.mk, [(.fld (.var 2) 1), (.fld (.var 2) 2), (.fld (.var 2) 3), (.fld (.var 2) 4), (.fld (.var 2) 5), (.fld (.var 2) 6)]⟩
 (.letE ⟨.mk, [(.fld (.var 3) 1), (.fld (.var 3) 2), (.fld (.var 3) 3), (.fld (.var 3) 4), (.fld (.var 3) 5), (.fld (.var 3) 6)]⟩
 (.call 187 [(.var 5), (.var 6)] 1
 (.letE ⟨(.un .not), [(.var 7)]⟩
 (.ite (.var 8)
 (.ret [(.bool false)])
 (.ret [(.bool true)]))))))))))
/- loop.example/g00365/laws.eqItemS -/
def sg81 : Sig := ⟨[.val, .val], [(.bool, .sh)], true, none, false⟩
def hi81 : Hints := [((0, 4), ⟨[(4, .sh), (5, .sh)], [], []⟩)]
def ir81 : IR := (.letE ⟨.len, [(.var 0)]⟩
 (.letE ⟨.len, [(.var 1)]⟩
 (.letE ⟨(.bin .neq 3), [(.var 2), (.var 3)]⟩
 (.ite (.var 4)
 (.ret [(.bool false)])
 (.label true
 (.letE ⟨.len, [(.var 0)]⟩
 (.letE ⟨(.bin .lss 3), [(.var 6), (.var 7)]⟩
 (.ite (.var 8)
 (.letE ⟨(.idx 7), [(.var 0), (.var 6)]⟩
 (.letE ⟨(.cells 0 7), [(.var 9)]⟩
 (.letE ⟨(.idx 7), [(.var 1), (.var 6)]⟩
 (.letE ⟨(.cells 0 7), [(.var 11)]⟩
 (.call 142 [(.var 10), (.var 12)] 1
 (.letE ⟨(.un .not), [(.var 13)]⟩
 (.ite (.var 14)
 (.ret [(.bool false)])
 (.letE ⟨(.bin .add 3), [(.var 6), (.int .i64 (1))]⟩
 (.jump 0 [(.var 5), (.var 15)])))))))))
 (.ret [(.bool true)]))))
 (.jump 0 [(.bool false), (.int .i64 (0))]))))))
/- loop.example/g00365/laws.eqIntS -/
def sg29 : Sig := ⟨[.val, .val], [(.bool, .sh)], true, none, false⟩
def hi29 : Hints := [((0, 4), ⟨[(4, .sh), (5, .sh)], [], []⟩)]
def ir29 : IR := (.letE ⟨.len, [(.var 0)]⟩
 (.letE ⟨.len, [(.var 1)]⟩
 (.letE ⟨(.bin .neq 3), [(.var 2), (.var 3)]⟩
 (.ite (.var 4)
 (.ret [(.bool false)])
 (.label true
 (.letE ⟨.len, [(.var 0)]⟩
 (.letE ⟨(.bin .lss 3), [(.var 6), (.var 7)]⟩
 (.ite (.var 8)
 (.letE ⟨(.idx 1), [(.var 0), (.var 6)]⟩
 (.letE ⟨.a, [(.fld (.var 9) 0)]⟩
 (.letE ⟨(.idx 1), [(.var 1), (.var 6)]⟩
 (.letE ⟨.a, [(.fld (.var 11) 0)]⟩
 (.letE ⟨(.bin .neq 3), [(.var 10), (.var 12)]⟩
 (.ite (.var 13)
 (.ret [(.bool false)])
 (.letE ⟨(.bin .add 3), [(.var 6), (.int .i64 (1))]⟩
 (.jump 0 [(.var 5), (.var 14)]))))))))
 (.ret [(.bool true)]))))
 (.jump 0 [(.bool false), (.int .i64 (0))]))))))
/- loop.example/g00365/impl.Behind$1 -/
def sg84 : Sig := ⟨[.val, .rd], [(.bool, .sh)], true, none, false⟩
def hi84 : Hints := []
def ir84 : IR := (.letE ⟨.a, [(.fld (.var 1) 10)]⟩
 (.letE ⟨(.idx 1), [(.var 2), (.var 0)]⟩
 (.letE ⟨.a, [(.fld (.var 3) 0)]⟩
 (.letE ⟨.a, [(.fld (.var 1) 3)]⟩
 (.letE ⟨.len, [(.var 5)]⟩
 (.letE ⟨(.bin .geq 3), [(.var 4), (.var 6)]⟩
 (.ret [(.var 7)])))))))
/- (loop.example/g00365/impl.Node).others -/
def sg80 : Sig := ⟨[.val], [((.sl (.int .i64)), (.own .sh))], true, none, false⟩
def hi80 : Hints := [((0, 3), ⟨[(3, (.own .sh)), (8, .sh), (2, (.own .sh))], [], []⟩)]
def ir80 : IR := (.letE ⟨(.all 11), [(.var 0)]⟩
 (.letE ⟨.len, [(.fld (.var 1) 8)]⟩
 (.label true
 (.letE ⟨(.bin .lss 3), [(.var 4), (.var 2)]⟩
 (.ite (.var 6)
 (.letE ⟨(.bin .neq 3), [(.var 4), (.fld (.var 1) 0)]⟩
 (.ite (.var 7)
 (.letE ⟨(.lst (.int .i64)), [(.var 4)]⟩
 (.letE ⟨(.app (.int .i64)), [(.var 3), (.var 8)]⟩
 (.letE ⟨(.bin .add 3), [(.var 4), (.int .i64 (1))]⟩
 (.jump 0 [(.var 9), (.var 10), (.var 5)]))))
 (.letE ⟨(.bin .add 3), [(.var 4), (.int .i64 (1))]⟩
 (.jump 0 [(.var 3), (.var 8), (.var 5)]))))
 (.ret [(.var 3)])))
 (.jump 0 [(.nil (.int .i64)), (.int .i64 (0)), (.nil (.int .i64))]))))
/- slices.Index[[]bool,bool] -/
def sg123 : Sig := ⟨[.val, .val], [((.int .i64), .sh)], true, none, false⟩
def hi123 : Hints := [((0, 2), ⟨[(4, .sh), (8, .sh)], [], []⟩)]
def ir123 : IR := (.letE ⟨.len, [(.var 0)]⟩
 (.label true
 (.letE ⟨(.bin .lss 3), [(.var 4), (.var 2)]⟩
 (.ite (.var 5)
 (.letE ⟨(.idx 1), [(.var 0), (.var 4)]⟩
 (.letE ⟨.a, [(.fld (.var 6) 0)]⟩
 (.letE ⟨(.beq false), [(.var 1), (.var 7)]⟩
 (.ite (.var 8)
 (.ret [(.var 4)])
 (.letE ⟨(.bin .add 3), [(.var 4), (.int .i64 (1))]⟩
 (.jump 0 [(.var 3), (.var 9)]))))))
 (.ret [(.int .i64 (-1))])))
 (.jump 0 [(.int .i64 (0)), (.int .i64 (0))])))
/- slices.Contains[[]bool,bool] -/
def sg62 : Sig := ⟨[.val, .val], [(.bool, .sh)], true, none, false⟩
def hi62 : Hints := []
def ir62 : IR := (.call 123 [(.var 0), (.var 1)] 1
 (.letE ⟨(.bin .geq 3), [(.var 2), (.int .i64 (0))]⟩
 (.ret [(.var 3)])))
/- loop.example/g00365/impl.isValue -/
def sg181 : Sig := ⟨[.val], [(.bool, .sh)], true, none, false⟩
def hi181 : Hints := []
def ir181 : IR := (.letE ⟨.len, [(.var 0)]⟩
 (.letE ⟨(.bin .leq 3), [(.var 1), (.int .i64 (20))]⟩
 (.ret [(.var 2)])))
/- bytes.Equal -/
def sg199 : Sig := ⟨[.val, .val], [(.bool, .sh)], true, none, false⟩
def hi199 : Hints := []
def ir199 : IR := (.letE ⟨.text, [(.var 0)]⟩
 (.letE ⟨.text, [(.var 1)]⟩
 (.letE ⟨(.bin .eql 9), [(.var 2), (.var 3)]⟩
 (.ret [(.var 4)]))))
/- (loop.example/g00365/impl.Op).same -/
def sg180 : Sig := ⟨[.val, .val], [(.bool, .sh)], true, none, false⟩
def hi180 : Hints := []
def ir180 : IR := (.letE ⟨(.all 4), [(.var 0)]⟩
 (.letE ⟨(.all 4), [(.var 1)]⟩
 (.letE ⟨(.bin .eql 3), [(.fld (.var 2) 0), (.fld (.var 3) 0)]⟩
 (.ite (.var 4)
 (.call 199 [(.fld (.var 2) 1), (.fld (.var 3) 1)] 1
 (.ite (.var 5)
 (.call 199 [(.fld (.var 2) 2), (.fld (.var 3) 2)] 1
 (.ite (.var 6)
 (.letE ⟨(.bin .eql 3), [(.fld (.var 2) 3), (.fld (.var 3) 3)]⟩
 (.ret [(.var 7)]))
 (.ret [(.bool false)])))
 (.ret [(.bool false)])))
 (.ret [(.bool false)])))))
/- (loop.example/g00365/impl.Cmd).same -/
def sg127 : Sig := ⟨[.val, .val], [(.bool, .sh)], true, none, false⟩
def hi127 : Hints := []
def ir127 : IR := (.letE ⟨(.all 6), [(.var 0)]⟩
 (.letE ⟨(.all 6), [(.var 1)]⟩
 (.letE ⟨(.bin .eql 3), [(.fld (.var 2) 0), (.fld (.var 3) 0)]⟩
 (.ite (.var 4)
 (.letE ⟨(.bin .eql 3), [(.fld (.var 2) 1), (.fld (.var 3) 1)]⟩
 (.ite (.var 5)
 (.letE ⟨.mk, [(.fld (.var 2) 2), (.fld (.var 2) 3), (.fld (.var 2) 4), (.fld (.var 2) 5)]⟩
 (.letE ⟨.mk, [(.fld (.var 3) 2), (.fld (.var 3) 3), (.fld (.var 3) 4), (.fld (.var 3) 5)]⟩
 (.call 180 [(.var 6), (.var 7)] 1
 (.ret [(.var 8)]))))
 (.ret [(.bool false)])))
 (.ret [(.bool false)])))))
/- loop.example/g00365/impl.noOp -/
def sg128 : Sig := ⟨[], [((.pair (.int .i64) (.pair (.int .i64) (.pair (.int .i64) (.pair (.sl (.int .u8)) (.pair (.sl (.int .u8)) (.pair (.int .i64) .unit)))))), (.pair .sh (.pair .sh (.pair .sh (.pair (.own .sh) (.pair (.own .sh) .sh))))))], true, none, false⟩
def hi128 : Hints := []
def ir128 : IR := (.letE ⟨.atom, [(.int .i64 (-1))]⟩
 (.letE ⟨.mk, [(.var 0), (.int .i64 (0)), (.int .i64 (0)), (.nil (.int .u8)), (.nil (.int .u8)), (.int .i64 (0))]⟩
 (.letE ⟨(.all 6), [(.var 1)]⟩
 (.letE ⟨.mk, [(.fld (.var 2) 0), (.fld (.var 2) 1), (.fld (.var 2) 2), (.fld (.var 2) 3), (.fld (.var 2) 4), (.fld (.var 2) 5)]⟩
 (.ret [(.var 3)])))))
/- loop.example/g00365/impl.within -/
def sg60 : Sig := ⟨[.val, .val, .val], [(.bool, .sh)], true, none, false⟩
def hi60 : Hints := []
def ir60 : IR := (.letE ⟨(.bin .leq 3), [(.var 1), (.var 0)]⟩
 (.ite (.var 3)
 (.letE ⟨(.bin .leq 3), [(.var 0), (.var 2)]⟩
 (.ret [(.var 4)]))
 (.ret [(.bool false)])))
/- loop.example/g00365/impl.isServer -/
def sg59 : Sig := ⟨[.val, .val], [(.bool, .sh)], true, none, false⟩
def hi59 : Hints := []
def ir59 : IR := (.call 60 [(.var 1), (.int .i64 (1)), (.int .i64 (5))] 1
 (.ite (.var 2)
 (.letE ⟨(.bin .sub 3), [(.var 1), (.int .i64 (1))]⟩
 (.call 60 [(.var 0), (.int .i64 (0)), (.var 3)] 1
 (.ret [(.var 4)])))
 (.ret [(.bool false)])))
/- loop.example/g00365/spec.l2key -/
def sg136 : Sig := ⟨[.val], [(.bool, .sh)], false, none, false⟩
def hi136 : Hints := [((0, 4), ⟨[(2, .sh), (3, .sh)], [], []⟩)]
def ir136 : IR := (.letE ⟨.len, [(.var 0)]⟩
 (.letE ⟨(.bin .lss 3), [(.var 1), (.int .i64 (1))]⟩
 (.ite (.var 2)
 (.ret [(.bool false)])
 (.letE ⟨.len, [(.var 0)]⟩
 (.letE ⟨(.bin .gtr 3), [(.var 3), (.int .i64 (20))]⟩
 (.ite (.var 4)
 (.ret [(.bool false)])
 (.label true
 (.letE ⟨.len, [(.var 0)]⟩
 (.letE ⟨(.bin .lss 3), [(.var 6), (.var 7)]⟩
 (.ite (.var 8)
 (.letE ⟨(.idx 1), [(.var 0), (.var 6)]⟩
 (.letE ⟨.a, [(.fld (.var 9) 0)]⟩
 (.letE ⟨(.bin .lss 5), [(.var 10), (.int .u8 (97))]⟩
 (.ite (.var 11)
 (.letE ⟨(.idx 1), [(.var 0), (.var 6)]⟩
 (.letE ⟨.a, [(.fld (.var 12) 0)]⟩
 (.letE ⟨(.bin .neq 5), [(.var 13), (.int .u8 (47))]⟩
 (.ite (.var 14)
 (.ret [(.bool false)])
 (.letE ⟨(.bin .add 3), [(.var 6), (.int .i64 (1))]⟩
 (.jump 0 [(.var 5), (.var 15)]))))))
 (.letE ⟨(.idx 1), [(.var 0), (.var 6)]⟩
 (.letE ⟨.a, [(.fld (.var 12) 0)]⟩
 (.letE ⟨(.bin .gtr 5), [(.var 13), (.int .u8 (122))]⟩
 (.ite (.var 14)
 (.letE ⟨(.idx 1), [(.var 0), (.var 6)]⟩
 (.letE ⟨.a, [(.fld (.var 15) 0)]⟩
 (.letE ⟨(.bin .neq 5), [(.var 16), (.int .u8 (47))]⟩
 (.ite (.var 17)
 (.ret [(.bool false)])
 (.letE ⟨(.bin .add 3), [(.var 6), (.int .i64 (1))]⟩
 (.jump 0 [(.var 5), (.var 18)]))))))
 (.letE ⟨(.bin .add 3), [(.var 6), (.int .i64 (1))]⟩
 (.jump 0 [(.var 5), (.var 15)]))))))))))
 (.ret [(.bool true)]))))
 (.jump 0 [(.bool false), (.int .i64 (0))]))))))))
/- loop.example/g00365/spec.l2index -/
def sg135 : Sig := ⟨[.val], [(.bool, .sh)], false, none, false⟩
def hi135 : Hints := []
def ir135 : IR := (.letE ⟨(.bin .geq 3), [(.var 0), (.int .i64 (0))]⟩
 (.ite (.var 1)
 (.letE ⟨(.bin .leq 3), [(.var 0), (.int .i64 (1000000))]⟩
 (.ret [(.var 2)]))
 (.ret [(.bool false)])))
/- loop.example/g00365/spec.l2val -/
def sg134 : Sig := ⟨[.val], [(.bool, .sh)], false, none, false⟩
def hi134 : Hints := []
def ir134 : IR := (.letE ⟨.len, [(.var 0)]⟩
 (.letE ⟨(.bin .leq 3), [(.var 1), (.int .i64 (20))]⟩
 (.ret [(.var 2)])))
/- loop.example/g00365/spec.OpOk -/
def sg70 : Sig := ⟨[.val], [(.bool, .sh)], false, none, false⟩
def hi70 : Hints := [((1, 13), ⟨[(88, .sh)], [], [89, 90, 91]⟩), ((1, 8), ⟨[(85, .sh)], [], [78, 79, 80, 81, 82, 83, 84]⟩), ((1, 7), ⟨[(4, .sh)], [], [65, 66, 67, 68, 69, 70, 71, 72, 73, 74, 75, 76, 77]⟩), ((1, 5), ⟨[(64, .sh)], [], [48, 49, 50, 51, 52, 53, 54, 55, 56, 57, 58, 59, 60, 61, 62, 63]⟩), ((1, 4), ⟨[(3, .sh)], [], [25, 26, 27, 28, 29, 30, 31, 32, 33, 34, 35, 36, 37, 38, 39, 40, 41, 42, 43, 44, 45, 46, 47]⟩), ((1, 2), ⟨[(24, .sh)], [], [5, 6, 7, 8, 9, 10, 11, 12, 13, 14, 15, 16, 17, 18, 19, 20, 21, 22, 23]⟩)]
def ir70 : IR := (.letE ⟨(.all 4), [(.var 0)]⟩
 (.label false
 (.ite (.var 2)
 (.ret [(.bool false)])
 (.label false
 (.label false
 (.ite (.var 4)
 (.ret [(.bool false)])
 (.label false
 (.label false
 (.ite (.var 6)
 (.ret [(.bool false)])
 (.label false
 (.ite (.var 7)
 (.letE ⟨(.bin .eql 3), [(.fld (.var 1) 3), (.int .i64 (0))]⟩
 (.ret [(.var 8)]))
 (.letE ⟨(.bin .eql 3), [(.fld (.var 1) 0), (.int .i64 (4))]⟩
 (.ite (.var 8)
 (.letE ⟨(.bin .leq 3), [(.fld (.var 1) 3), (.int .i64 (1))]⟩
 (.ret [(.var 9)]))
 (.letE ⟨(.bin .eql 3), [(.fld (.var 1) 0), (.int .i64 (2))]⟩
 (.ite (.var 9)
 (.ret [(.bool true)])
 (.letE ⟨(.bin .geq 3), [(.fld (.var 1) 3), (.int .i64 (1))]⟩
 (.ret [(.var 10)])))))))
 (.letE ⟨(.bin .eql 3), [(.fld (.var 1) 0), (.int .i64 (0))]⟩
 (.ite (.var 7)
 (.jump 5 [(.var 7)])
 (.letE ⟨(.bin .eql 3), [(.fld (.var 1) 0), (.int .i64 (1))]⟩
 (.ite (.var 8)
 (.jump 5 [(.var 8)])
 (.letE ⟨(.bin .eql 3), [(.fld (.var 1) 0), (.int .i64 (3))]⟩
 (.jump 5 [(.var 9)]))))))))
 (.letE ⟨(.un .not), [(.var 5)]⟩
 (.ite (.var 6)
 (.letE ⟨.len, [(.fld (.var 1) 2)]⟩
 (.letE ⟨(.bin .gtr 3), [(.var 7), (.int .i64 (0))]⟩
 (.jump 4 [(.var 8)])))
 (.jump 4 [(.bool false)]))))
 (.letE ⟨(.bin .eql 3), [(.fld (.var 1) 0), (.int .i64 (1))]⟩
 (.ite (.var 5)
 (.jump 3 [(.bool true)])
 (.letE ⟨(.bin .eql 3), [(.fld (.var 1) 0), (.int .i64 (2))]⟩
 (.ite (.var 6)
 (.jump 3 [(.bool true)])
 (.letE ⟨(.bin .eql 3), [(.fld (.var 1) 0), (.int .i64 (6))]⟩
 (.jump 3 [(.var 7)]))))))))
 (.ite (.var 3)
 (.call 136 [(.fld (.var 1) 1)] 1
 (.letE ⟨(.un .not), [(.var 4)]⟩
 (.ite (.var 5)
 (.jump 2 [(.bool true)])
 (.letE ⟨(.un .not), [(.var 3)]⟩
 (.ite (.var 6)
 (.letE ⟨.len, [(.fld (.var 1) 1)]⟩
 (.letE ⟨(.bin .gtr 3), [(.var 7), (.int .i64 (0))]⟩
 (.jump 2 [(.var 8)])))
 (.jump 2 [(.bool false)]))))))
 (.letE ⟨(.un .not), [(.var 3)]⟩
 (.ite (.var 4)
 (.letE ⟨.len, [(.fld (.var 1) 1)]⟩
 (.letE ⟨(.bin .gtr 3), [(.var 5), (.int .i64 (0))]⟩
 (.jump 2 [(.var 6)])))
 (.jump 2 [(.bool false)])))))
 (.letE ⟨(.bin .eql 3), [(.fld (.var 1) 0), (.int .i64 (1))]⟩
 (.ite (.var 3)
 (.jump 1 [(.bool true)])
 (.letE ⟨(.bin .eql 3), [(.fld (.var 1) 0), (.int .i64 (2))]⟩
 (.ite (.var 4)
 (.jump 1 [(.bool true)])
 (.letE ⟨(.bin .eql 3), [(.fld (.var 1) 0), (.int .i64 (3))]⟩
 (.ite (.var 5)
 (.jump 1 [(.bool true)])
 (.letE ⟨(.bin .eql 3), [(.fld (.var 1) 0), (.int .i64 (6))]⟩
 (.ite (.var 6)
 (.jump 1 [(.bool true)])
 (.letE ⟨(.bin .eql 3), [(.fld (.var 1) 0), (.int .i64 (7))]⟩
 (.jump 1 [(.var 7)]))))))))))))
 (.letE ⟨(.bin .lss 3), [(.fld (.var 1) 0), (.int .i64 (0))]⟩
 (.ite (.var 2)
 (.jump 0 [(.bool true)])
 (.letE ⟨(.bin .gtr 3), [(.fld (.var 1) 0), (.int .i64 (7))]⟩
 (.ite (.var 3)
 (.jump 0 [(.bool true)])
 (.call 134 [(.fld (.var 1) 2)] 1
 (.letE ⟨(.un .not), [(.var 4)]⟩
 (.ite (.var 5)
 (.jump 0 [(.bool true)])
 (.call 135 [(.fld (.var 1) 3)] 1
 (.letE ⟨(.un .not), [(.var 6)]⟩
 (.jump 0 [(.var 7)]))))))))))))
/- loop.example/g00365/spec.CmdOk -/
def sg18 : Sig := ⟨[.val], [(.bool, .sh)], false, none, false⟩
def hi18 : Hints := []
def ir18 : IR := (.letE ⟨(.all 6), [(.var 0)]⟩
 (.letE ⟨(.bin .eql 3), [(.fld (.var 1) 0), (.int .i64 (-1))]⟩
 (.ite (.var 2)
 (.letE ⟨(.bin .eql 3), [(.fld (.var 1) 1), (.int .i64 (0))]⟩
 (.ite (.var 3)
 (.letE ⟨(.bin .eql 3), [(.fld (.var 1) 2), (.int .i64 (0))]⟩
 (.ite (.var 4)
 (.letE ⟨.mk, [(.fld (.var 1) 2), (.fld (.var 1) 3), (.fld (.var 1) 4), (.fld (.var 1) 5)]⟩
 (.call 70 [(.var 5)] 1
 (.ret [(.var 6)])))
 (.ret [(.bool false)])))
 (.ret [(.bool false)])))
 (.letE ⟨(.bin .geq 3), [(.fld (.var 1) 0), (.int .i64 (0))]⟩
 (.ite (.var 3)
 (.letE ⟨(.bin .lss 3), [(.fld (.var 1) 0), (.int .i64 (4))]⟩
 (.ite (.var 4)
 (.letE ⟨(.bin .geq 3), [(.fld (.var 1) 1), (.int .i64 (1))]⟩
 (.ite (.var 5)
 (.letE ⟨(.bin .leq 3), [(.fld (.var 1) 1), (.int .i64 (1000000))]⟩
 (.ite (.var 6)
 (.letE ⟨.mk, [(.fld (.var 1) 2), (.fld (.var 1) 3), (.fld (.var 1) 4), (.fld (.var 1) 5)]⟩
 (.call 70 [(.var 7)] 1
 (.ret [(.var 8)])))
 (.ret [(.bool false)])))
 (.ret [(.bool false)])))
 (.ret [(.bool false)])))
 (.ret [(.bool false)]))))))
/- loop.example/g00365/spec.ItemOk -/
def sg58 : Sig := ⟨[.val], [(.bool, .sh)], false, none, false⟩
def hi58 : Hints := []
def ir58 : IR := (.letE ⟨(.all 7), [(.var 0)]⟩
 (.letE ⟨(.bin .geq 3), [(.fld (.var 1) 0), (.int .i64 (1))]⟩
 (.ite (.var 2)
 (.letE ⟨(.bin .leq 3), [(.fld (.var 1) 0), (.int .i64 (100000))]⟩
 (.ite (.var 3)
 (.letE ⟨.mk, [(.fld (.var 1) 1), (.fld (.var 1) 2), (.fld (.var 1) 3), (.fld (.var 1) 4), (.fld (.var 1) 5), (.fld (.var 1) 6)]⟩
 (.call 18 [(.var 4)] 1
 (.ret [(.var 5)])))
 (.ret [(.bool false)])))
 (.ret [(.bool false)]))))
/- loop.example/g00365/spec.l4who -/
def sg57 : Sig := ⟨[.val, .val], [(.bool, .sh)], false, none, false⟩
def hi57 : Hints := []
def ir57 : IR := (.letE ⟨(.bin .geq 3), [(.var 0), (.int .i64 (-1))]⟩
 (.ite (.var 2)
 (.letE ⟨(.bin .lss 3), [(.var 0), (.var 1)]⟩
 (.ret [(.var 3)]))
 (.ret [(.bool false)])))
/- loop.example/g00365/spec.l3term -/
def sg56 : Sig := ⟨[.val], [(.bool, .sh)], false, none, false⟩
def hi56 : Hints := []
def ir56 : IR := (.letE ⟨(.bin .geq 3), [(.var 0), (.int .i64 (0))]⟩
 (.ite (.var 1)
 (.letE ⟨(.bin .leq 3), [(.var 0), (.int .i64 (100000))]⟩
 (.ret [(.var 2)]))
 (.ret [(.bool false)])))
/- loop.example/g00365/spec.l4servers -/
def sg55 : Sig := ⟨[.val], [(.bool, .sh)], false, none, false⟩
def hi55 : Hints := []
def ir55 : IR := (.letE ⟨(.bin .geq 3), [(.var 0), (.int .i64 (1))]⟩
 (.ite (.var 1)
 (.letE ⟨(.bin .leq 3), [(.var 0), (.int .i64 (5))]⟩
 (.ret [(.var 2)]))
 (.ret [(.bool false)])))
/- loop.example/g00365/spec.NodeOk -/
def sg13 : Sig := ⟨[.val, .val], [(.bool, .sh)], false, none, false⟩
def hi13 : Hints := [((1, 18), ⟨[(236, .sh)], [], [227, 228, 229, 230, 231, 232, 233, 234, 235]⟩), ((1, 16), ⟨[(226, .sh)], [], [208, 209, 210, 211, 212, 213, 214, 215, 216, 217, 218, 219, 220, 221, 222, 223, 224, 225]⟩), ((1, 14), ⟨[(207, .sh)], [], [166, 167, 168, 169, 170, 171, 172, 173, 174, 175, 176, 177, 178, 179, 180, 181, 182, 183, 184, 185, 186, 187, 188, 189, 190, 191, 192, 193, 194, 195, 196, 197, 198, 199, 200, 201, 202, 203, 204, 205, 206]⟩), ((0, 11), ⟨[(4, .sh), (6, .sh)], [], []⟩), ((1, 9), ⟨[(160, .sh)], [], [146, 147, 148, 149, 150, 151, 152, 153, 154, 155, 156, 157, 158, 159]⟩), ((1, 7), ⟨[(145, .sh)], [], [108, 109, 110, 111, 112, 113, 114, 115, 116, 117, 118, 119, 120, 121, 122, 123, 124, 125, 126, 127, 128, 129, 130, 131, 132, 133, 134, 135, 136, 137, 138, 139, 140, 141, 142, 143, 144]⟩), ((0, 4), ⟨[(4, .sh), (5, .sh)], [], []⟩), ((1, 2), ⟨[(100, .sh)], [], [7, 8, 9, 10, 11, 12, 13, 14, 15, 16, 17, 18, 19, 20, 21, 22, 23, 24, 25, 26, 27, 28, 29, 30, 31, 32, 33, 34, 35, 36, 37, 38, 39, 40, 41, 42, 43, 44, 45, 46, 47, 48, 49, 50, 51, 52, 53, 54, 55, 56, 57, 58, 59, 60, 61, 62, 63, 64, 65, 66, 67, 68, 69, 70, 71, 72, 73, 74, 75, 76, 77, 78, 79, 80, 81, 82, 83, 84, 85, 86, 87, 88, 89, 90, 91, 92, 93, 94, 95, 96, 97, 98, 99]⟩)]
def ir13 : IR := (.letE ⟨(.all 11), [(.var 0)]⟩
 (.label false
 (.ite (.var 3)
 (.ret [(.bool false)])
 (.label true
 (.letE ⟨.len, [(.fld (.var 2) 3)]⟩
 (.letE ⟨(.bin .lss 3), [(.var 5), (.var 6)]⟩
 (.ite (.var 7)
 (.label false
 (.ite (.var 8)
 (.ret [(.bool false)])
 (.letE ⟨(.bin .add 3), [(.var 5), (.int .i64 (1))]⟩
 (.jump 1 [(.var 4), (.var 9)])))
 (.letE ⟨(.idx 7), [(.fld (.var 2) 3), (.var 5)]⟩
 (.letE ⟨(.cells 0 7), [(.var 8)]⟩
 (.call 58 [(.var 9)] 1
 (.letE ⟨(.un .not), [(.var 10)]⟩
 (.ite (.var 11)
 (.jump 2 [(.bool true)])
 (.letE ⟨(.idx 7), [(.fld (.var 2) 3), (.var 5)]⟩
 (.letE ⟨.a, [(.fld (.var 12) 0)]⟩
 (.letE ⟨(.bin .gtr 3), [(.var 13), (.fld (.var 2) 1)]⟩
 (.ite (.var 14)
 (.jump 2 [(.bool true)])
 (.letE ⟨(.bin .gtr 3), [(.var 5), (.int .i64 (0))]⟩
 (.ite (.var 15)
 (.letE ⟨(.bin .sub 3), [(.var 5), (.int .i64 (1))]⟩
 (.letE ⟨(.idx 7), [(.fld (.var 2) 3), (.var 16)]⟩
 (.letE ⟨.a, [(.fld (.var 17) 0)]⟩
 (.letE ⟨(.idx 7), [(.fld (.var 2) 3), (.var 5)]⟩
 (.letE ⟨.a, [(.fld (.var 19) 0)]⟩
 (.letE ⟨(.bin .gtr 3), [(.var 18), (.var 20)]⟩
 (.jump 2 [(.var 21)])))))))
 (.jump 2 [(.bool false)])))))))))))))
 (.label false
 (.ite (.var 8)
 (.ret [(.bool false)])
 (.label true
 (.letE ⟨(.bin .lss 3), [(.var 10), (.var 1)]⟩
 (.ite (.var 11)
 (.label false
 (.ite (.var 12)
 (.ret [(.bool false)])
 (.label false
 (.ite (.var 13)
 (.ret [(.bool false)])
 (.label false
 (.ite (.var 14)
 (.ret [(.bool false)])
 (.letE ⟨(.bin .add 3), [(.var 10), (.int .i64 (1))]⟩
 (.jump 3 [(.var 9), (.var 15)])))
 (.letE ⟨(.bin .eql 3), [(.fld (.var 2) 5), (.int .i64 (0))]⟩
 (.ite (.var 14)
 (.letE ⟨(.idx 1), [(.fld (.var 2) 8), (.var 10)]⟩
 (.letE ⟨.a, [(.fld (.var 15) 0)]⟩
 (.jump 6 [(.var 16)])))
 (.jump 6 [(.bool false)])))))
 (.letE ⟨(.bin .neq 3), [(.fld (.var 2) 5), (.int .i64 (2))]⟩
 (.ite (.var 13)
 (.letE ⟨(.idx 1), [(.fld (.var 2) 9), (.var 10)]⟩
 (.letE ⟨.a, [(.fld (.var 14) 0)]⟩
 (.letE ⟨(.bin .neq 3), [(.var 15), (.int .i64 (0))]⟩
 (.ite (.var 16)
 (.jump 5 [(.bool true)])
 (.letE ⟨(.idx 1), [(.fld (.var 2) 10), (.var 10)]⟩
 (.letE ⟨.a, [(.fld (.var 17) 0)]⟩
 (.letE ⟨(.bin .neq 3), [(.var 18), (.int .i64 (0))]⟩
 (.jump 5 [(.var 19)]))))))))
 (.jump 5 [(.bool false)])))))
 (.letE ⟨(.bin .eql 3), [(.fld (.var 2) 5), (.int .i64 (2))]⟩
 (.ite (.var 12)
 (.letE ⟨(.idx 1), [(.fld (.var 2) 9), (.var 10)]⟩
 (.letE ⟨.a, [(.fld (.var 13) 0)]⟩
 (.letE ⟨(.bin .lss 3), [(.var 14), (.int .i64 (1))]⟩
 (.ite (.var 15)
 (.jump 4 [(.bool true)])
 (.letE ⟨(.idx 1), [(.fld (.var 2) 9), (.var 10)]⟩
 (.letE ⟨.a, [(.fld (.var 16) 0)]⟩
 (.letE ⟨.len, [(.fld (.var 2) 3)]⟩
 (.letE ⟨(.bin .add 3), [(.var 18), (.int .i64 (1))]⟩
 (.letE ⟨(.bin .gtr 3), [(.var 17), (.var 19)]⟩
 (.ite (.var 20)
 (.jump 4 [(.bool true)])
 (.letE ⟨(.idx 1), [(.fld (.var 2) 10), (.var 10)]⟩
 (.letE ⟨.a, [(.fld (.var 21) 0)]⟩
 (.letE ⟨(.bin .lss 3), [(.var 22), (.int .i64 (0))]⟩
 (.ite (.var 23)
 (.jump 4 [(.bool true)])
 (.letE ⟨(.idx 1), [(.fld (.var 2) 10), (.var 10)]⟩
 (.letE ⟨.a, [(.fld (.var 24) 0)]⟩
 (.letE ⟨.len, [(.fld (.var 2) 3)]⟩
 (.letE ⟨(.bin .gtr 3), [(.var 25), (.var 26)]⟩
 (.jump 4 [(.var 27)])))))))))))))))))))
 (.jump 4 [(.bool false)]))))
 (.letE ⟨(.bin .neq 3), [(.fld (.var 2) 5), (.int .i64 (2))]⟩
 (.ite (.var 12)
 (.ret [(.bool true)])
 (.letE ⟨(.bin .eql 3), [(.fld (.var 2) 6), (.fld (.var 2) 0)]⟩
 (.ret [(.var 13)]))))))
 (.jump 3 [(.var 4), (.int .i64 (0))])))
 (.letE ⟨(.bin .neq 3), [(.fld (.var 2) 5), (.int .i64 (0))]⟩
 (.ite (.var 8)
 (.letE ⟨(.bin .lss 3), [(.fld (.var 2) 1), (.int .i64 (1))]⟩
 (.ite (.var 9)
 (.jump 2 [(.bool true)])
 (.letE ⟨(.bin .neq 3), [(.fld (.var 2) 2), (.fld (.var 2) 0)]⟩
 (.jump 2 [(.var 10)]))))
 (.jump 2 [(.bool false)])))))))
 (.jump 1 [(.bool false), (.int .i64 (0))])))
 (.call 55 [(.var 1)] 1
 (.letE ⟨(.un .not), [(.var 3)]⟩
 (.ite (.var 4)
 (.jump 0 [(.bool true)])
 (.letE ⟨(.bin .lss 3), [(.fld (.var 2) 0), (.int .i64 (0))]⟩
 (.ite (.var 5)
 (.jump 0 [(.bool true)])
 (.letE ⟨(.bin .geq 3), [(.fld (.var 2) 0), (.var 1)]⟩
 (.ite (.var 6)
 (.jump 0 [(.bool true)])
 (.call 56 [(.fld (.var 2) 1)] 1
 (.letE ⟨(.un .not), [(.var 7)]⟩
 (.ite (.var 8)
 (.jump 0 [(.bool true)])
 (.call 57 [(.fld (.var 2) 2), (.var 1)] 1
 (.letE ⟨(.un .not), [(.var 9)]⟩
 (.ite (.var 10)
 (.jump 0 [(.bool true)])
 (.letE ⟨.len, [(.fld (.var 2) 3)]⟩
 (.letE ⟨(.bin .gtr 3), [(.var 11), (.int .i64 (400))]⟩
 (.ite (.var 12)
 (.jump 0 [(.bool true)])
 (.letE ⟨(.bin .lss 3), [(.fld (.var 2) 4), (.int .i64 (0))]⟩
 (.ite (.var 13)
 (.jump 0 [(.bool true)])
 (.letE ⟨.len, [(.fld (.var 2) 3)]⟩
 (.letE ⟨(.bin .gtr 3), [(.fld (.var 2) 4), (.var 14)]⟩
 (.ite (.var 15)
 (.jump 0 [(.bool true)])
 (.letE ⟨(.bin .lss 3), [(.fld (.var 2) 5), (.int .i64 (0))]⟩
 (.ite (.var 16)
 (.jump 0 [(.bool true)])
 (.letE ⟨(.bin .gtr 3), [(.fld (.var 2) 5), (.int .i64 (2))]⟩
 (.ite (.var 17)
 (.jump 0 [(.bool true)])
 (.call 57 [(.fld (.var 2) 6), (.var 1)] 1
 (.letE ⟨(.un .not), [(.var 18)]⟩
 (.ite (.var 19)
 (.jump 0 [(.bool true)])
 (.letE ⟨(.bin .lss 3), [(.fld (.var 2) 7), (.int .i64 (0))]⟩
 (.ite (.var 20)
 (.jump 0 [(.bool true)])
 (.letE ⟨(.bin .gtr 3), [(.fld (.var 2) 7), (.int .i64 (20))]⟩
 (.ite (.var 21)
 (.jump 0 [(.bool true)])
 (.letE ⟨.len, [(.fld (.var 2) 8)]⟩
 (.letE ⟨(.bin .neq 3), [(.var 22), (.var 1)]⟩
 (.ite (.var 23)
 (.jump 0 [(.bool true)])
 (.letE ⟨.len, [(.fld (.var 2) 9)]⟩
 (.letE ⟨(.bin .neq 3), [(.var 24), (.var 1)]⟩
 (.ite (.var 25)
 (.jump 0 [(.bool true)])
 (.letE ⟨.len, [(.fld (.var 2) 10)]⟩
 (.letE ⟨(.bin .neq 3), [(.var 26), (.var 1)]⟩
 (.jump 0 [(.var 27)])))))))))))))))))))))))))))))))))))))))))))
/- loop.example/g00365/spec.Behind -/
def sg27 : Sig := ⟨[.val, .val], [((.sl (.int .i64)), (.own .sh))], false, none, false⟩
def hi27 : Hints := [((0, 5), ⟨[(5, (.own .sh)), (6, .sh), (4, (.own .sh))], [], []⟩)]
def ir27 : IR := (.letE ⟨(.all 11), [(.var 0)]⟩
 (.letE ⟨.mk, [(.fld (.var 2) 0), (.fld (.var 2) 1), (.fld (.var 2) 2), (.fld (.var 2) 3), (.fld (.var 2) 4), (.fld (.var 2) 5), (.fld (.var 2) 6), (.fld (.var 2) 7), (.fld (.var 2) 8), (.fld (.var 2) 9), (.fld (.var 2) 10)]⟩
 (.call 13 [(.var 3), (.var 1)] 1
 (.letE ⟨(.un .not), [(.var 4)]⟩
 (.ite (.var 5)
 (.ret [(.nil (.int .i64))])
 (.letE ⟨(.bin .neq 3), [(.fld (.var 2) 5), (.int .i64 (2))]⟩
 (.ite (.var 6)
 (.ret [(.nil (.int .i64))])
 (.label true
 (.letE ⟨(.bin .lss 3), [(.var 8), (.var 1)]⟩
 (.ite (.var 10)
 (.letE ⟨(.bin .neq 3), [(.var 8), (.fld (.var 2) 0)]⟩
 (.ite (.var 11)
 (.letE ⟨(.idx 1), [(.fld (.var 2) 10), (.var 8)]⟩
 (.letE ⟨.a, [(.fld (.var 12) 0)]⟩
 (.letE ⟨.len, [(.fld (.var 2) 3)]⟩
 (.letE ⟨(.bin .lss 3), [(.var 13), (.var 14)]⟩
 (.ite (.var 15)
 (.letE ⟨(.lst (.int .i64)), [(.var 8)]⟩
 (.letE ⟨(.app (.int .i64)), [(.var 7), (.var 16)]⟩
 (.letE ⟨(.bin .add 3), [(.var 8), (.int .i64 (1))]⟩
 (.jump 0 [(.var 17), (.var 18), (.var 9)]))))
 (.letE ⟨(.bin .add 3), [(.var 8), (.int .i64 (1))]⟩
 (.jump 0 [(.var 7), (.var 16), (.var 9)])))))))
 (.letE ⟨(.bin .add 3), [(.var 8), (.int .i64 (1))]⟩
 (.jump 0 [(.var 7), (.var 12), (.var 9)]))))
 (.ret [(.var 7)])))
 (.jump 0 [(.nil (.int .i64)), (.int .i64 (0)), (.nil (.int .i64))])))))))))
/- loop.example/g00365/laws.toIntS -/
def sg78 : Sig := ⟨[.val], [((.sl (.int .i64)), (.own .sh))], true, none, false⟩
def hi78 : Hints := [((0, 3), ⟨[(4, .sh), (2, (.own .sh)), (3, (.own .sh))], [], []⟩)]
def ir78 : IR := (.letE ⟨.len, [(.var 0)]⟩
 (.letE ⟨(.rep (.int .i64)), [(.var 1), (.int .i64 (0))]⟩
 (.label true
 (.letE ⟨.len, [(.var 0)]⟩
 (.letE ⟨(.bin .lss 3), [(.var 3), (.var 6)]⟩
 (.ite (.var 7)
 (.letE ⟨(.idx 1), [(.var 0), (.var 3)]⟩
 (.letE ⟨.a, [(.fld (.var 8) 0)]⟩
 (.letE ⟨(.idx 1), [(.var 5), (.var 3)]⟩
 (.letE ⟨(.setE 1), [(.var 5), (.var 3), (.var 9)]⟩
 (.letE ⟨(.bin .add 3), [(.var 3), (.int .i64 (1))]⟩
 (.jump 0 [(.var 12), (.var 4), (.var 11)]))))))
 (.ret [(.var 5)]))))
 (.jump 0 [(.int .i64 (0)), (.nil (.int .i64)), (.var 2)]))))
/- loop.example/g00365/laws.toBoolS -/
def sg77 : Sig := ⟨[.val], [((.sl .bool), (.own .sh))], true, none, false⟩
def hi77 : Hints := [((0, 3), ⟨[(4, .sh), (2, (.own .sh)), (3, (.own .sh))], [], []⟩)]
def ir77 : IR := (.letE ⟨.len, [(.var 0)]⟩
 (.letE ⟨(.rep .bool), [(.var 1), (.bool false)]⟩
 (.label true
 (.letE ⟨.len, [(.var 0)]⟩
 (.letE ⟨(.bin .lss 3), [(.var 3), (.var 6)]⟩
 (.ite (.var 7)
 (.letE ⟨(.idx 1), [(.var 0), (.var 3)]⟩
 (.letE ⟨.a, [(.fld (.var 8) 0)]⟩
 (.letE ⟨(.idx 1), [(.var 5), (.var 3)]⟩
 (.letE ⟨(.setE 1), [(.var 5), (.var 3), (.var 9)]⟩
 (.letE ⟨(.bin .add 3), [(.var 3), (.int .i64 (1))]⟩
 (.jump 0 [(.var 12), (.var 4), (.var 11)]))))))
 (.ret [(.var 5)]))))
 (.jump 0 [(.int .i64 (0)), (.nil .bool), (.var 2)]))))
/- loop.example/g00365/laws.toByteS -/
def sg91 : Sig := ⟨[.val], [((.sl (.int .u8)), (.own .sh))], true, none, false⟩
def hi91 : Hints := [((0, 3), ⟨[(4, .sh), (2, (.own .sh)), (3, (.own .sh))], [], []⟩)]
def ir91 : IR := (.letE ⟨.len, [(.var 0)]⟩
 (.letE ⟨(.rep (.int .u8)), [(.var 1), (.int .u8 (0))]⟩
 (.label true
 (.letE ⟨.len, [(.var 0)]⟩
 (.letE ⟨(.bin .lss 3), [(.var 3), (.var 6)]⟩
 (.ite (.var 7)
 (.letE ⟨(.idx 1), [(.var 0), (.var 3)]⟩
 (.letE ⟨.a, [(.fld (.var 8) 0)]⟩
 (.letE ⟨(.idx 1), [(.var 5), (.var 3)]⟩
 (.letE ⟨(.setE 1), [(.var 5), (.var 3), (.var 9)]⟩
 (.letE ⟨(.bin .add 3), [(.var 3), (.int .i64 (1))]⟩
 (.jump 0 [(.var 12), (.var 4), (.var 11)]))))))
 (.ret [(.var 5)]))))
 (.jump 0 [(.int .i64 (0)), (.nil (.int .u8)), (.var 2)]))))
/- loop.example/g00365/laws.toOp -/
def sg204 : Sig := ⟨[.val], [((.pair (.int .i64) (.pair (.sl (.int .u8)) (.pair (.sl (.int .u8)) (.pair (.int .i64) .unit)))), (.pair .sh (.pair (.own .sh) (.pair (.own .sh) .sh))))], true, none, false⟩
def hi204 : Hints := []
def ir204 : IR := (.letE ⟨(.all 4), [(.var 0)]⟩
 (.letE ⟨.atom, [(.fld (.var 1) 0)]⟩
 (.call 91 [(.fld (.var 1) 1)] 1
 (.letE ⟨.atom, [(.var 3)]⟩
 (.call 91 [(.fld (.var 1) 2)] 1
 (.letE ⟨.atom, [(.var 5)]⟩
 (.letE ⟨.atom, [(.fld (.var 1) 3)]⟩
 (.letE ⟨.mk, [(.var 2), (.var 4), (.var 6), (.var 7)]⟩
 (.letE ⟨(.all 4), [(.var 8)]⟩
 (.letE ⟨.mk, [(.fld (.var 9) 0), (.fld (.var 9) 1), (.fld (.var 9) 2), (.fld (.var 9) 3)]⟩
 (.ret [(.var 10)])))))))))))
/- loop.example/g00365/laws.toCmd -/
def sg186 : Sig := ⟨[.val], [((.pair (.int .i64) (.pair (.int .i64) (.pair (.int .i64) (.pair (.sl (.int .u8)) (.pair (.sl (.int .u8)) (.pair (.int .i64) .unit)))))), (.pair .sh (.pair .sh (.pair .sh (.pair (.own .sh) (.pair (.own .sh) .sh))))))], true, none, false⟩
def hi186 : Hints := []
def ir186 : IR := (.letE ⟨(.all 6), [(.var 0)]⟩
 (.letE ⟨.atom, [(.fld (.var 1) 0)]⟩
 (.letE ⟨.atom, [(.fld (.var 1) 1)]⟩
 (.letE ⟨.mk, [(.fld (.var 1) 2), (.fld (.var 1) 3), (.fld (.var 1) 4), (.fld (.var 1) 5)]⟩
 (.call 204 [(.var 4)] 1
 (.letE ⟨(.all 4), [(.var 5)]⟩
 (.letE ⟨.mk, [(.var 2), (.var 3), (.fld (.var 6) 0), (.fld (.var 6) 1), (.fld (.var 6) 2), (.fld (.var 6) 3)]⟩
 (.letE ⟨(.all 6), [(.var 7)]⟩
 (.letE ⟨.mk, [(.fld (.var 8) 0), (.fld (.var 8) 1), (.fld (.var 8) 2), (.fld (.var 8) 3), (.fld (.var 8) 4), (.fld (.var 8) 5)]⟩
 (.ret [(.var 9)]))))))))))
/- loop.example/g00365/laws.toItem -/
def sg141 : Sig := ⟨[.val], [((.pair (.int .i64) (.pair (.int .i64) (.pair (.int .i64) (.pair (.int .i64) (.pair (.sl (.int .u8)) (.pair (.sl (.int .u8)) (.pair (.int .i64) .unit))))))), (.pair .sh (.pair .sh (.pair .sh (.pair .sh (.pair (.own .sh) (.pair (.own .sh) .sh)))))))], true, none, false⟩
def hi141 : Hints := []
def ir141 : IR := (.letE ⟨(.all 7), [(.var 0)]⟩
 (.letE ⟨.atom, [(.fld (.var 1) 0)]⟩
 (.letE ⟨.mk, [(.fld (.var 1) 1), (.fld (.var 1) 2), (.fld (.var 1) 3), (.fld (.var 1) 4), (.fld (.var 1) 5), (.fld (.var 1) 6)]⟩
 (.call 186 [(.var 3)] 1
 (.letE ⟨(.all 6), [(.var 4)]⟩
 (.letE ⟨.mk, [(.var 2), (.fld (.var 5) 0), (.fld (.var 5) 1), (.fld (.var 5) 2), (.fld (.var 5) 3), (.fld (.var 5) 4), (.fld (.var 5) 5)]⟩
 (.letE ⟨(.all 7), [(.var 6)]⟩
 (.letE ⟨.mk, [(.fld (.var 7) 0), (.fld (.var 7) 1), (.fld (.var 7) 2), (.fld (.var 7) 3), (.fld (.var 7) 4), (.fld (.var 7) 5), (.fld (.var 7) 6)]⟩
 (.ret [(.var 8)])))))))))
/- loop.example/g00365/laws.toItemS -/
def sg76 : Sig := ⟨[.val], [((.sl (.pair (.int .i64) (.pair (.int .i64) (.pair (.int .i64) (.pair (.int .i64) (.pair (.sl (.int .u8)) (.pair (.sl (.int .u8)) (.pair (.int .i64) .unit)))))))), (.own (.pair .sh (.pair .sh (.pair .sh (.pair .sh (.pair (.own .sh) (.pair (.own .sh) .sh))))))))], true, none, false⟩
def hi76 : Hints := [((0, 3), ⟨[(4, .sh), (2, (.own (.pair .sh (.pair .sh (.pair .sh (.pair .sh (.pair (.own .sh) (.pair (.own .sh) .sh)))))))), (3, (.own (.pair .sh (.pair .sh (.pair .sh (.pair .sh (.pair (.own .sh) (.pair (.own .sh) .sh))))))))], [], []⟩)]
def ir76 : IR := (.letE ⟨.len, [(.var 0)]⟩
 (.letE ⟨.mk, [(.int .i64 (0)), (.int .i64 (0)), (.int .i64 (0)), (.int .i64 (0)), (.nil (.int .u8)), (.nil (.int .u8)), (.int .i64 (0))]⟩
 (.letE ⟨(.rep (.pair (.int .i64) (.pair (.int .i64) (.pair (.int .i64) (.pair (.int .i64) (.pair (.sl (.int .u8)) (.pair (.sl (.int .u8)) (.pair (.int .i64) .unit)))))))), [(.var 1), (.var 2)]⟩
 (.label true
 (.letE ⟨.len, [(.var 0)]⟩
 (.letE ⟨(.bin .lss 3), [(.var 4), (.var 7)]⟩
 (.ite (.var 8)
 (.letE ⟨(.idx 7), [(.var 0), (.var 4)]⟩
 (.letE ⟨(.cells 0 7), [(.var 9)]⟩
 (.call 141 [(.var 10)] 1
 (.letE ⟨(.idx 7), [(.var 6), (.var 4)]⟩
 (.letE ⟨(.setE 7), [(.var 6), (.var 4), (.var 11)]⟩
 (.letE ⟨(.bin .add 3), [(.var 4), (.int .i64 (1))]⟩
 (.jump 0 [(.var 14), (.var 5), (.var 13)])))))))
 (.ret [(.var 6)]))))
 (.jump 0 [(.int .i64 (0)), (.nil (.pair (.int .i64) (.pair (.int .i64) (.pair (.int .i64) (.pair (.int .i64) (.pair (.sl (.int .u8)) (.pair (.sl (.int .u8)) (.pair (.int .i64) .unit)))))))), (.var 3)])))))
/- loop.example/g00365/laws.toNode -/
def sg24 : Sig := ⟨[.val], [((.pair (.int .i64) (.pair (.int .i64) (.pair (.int .i64) (.pair (.sl (.pair (.int .i64) (.pair (.int .i64) (.pair (.int .i64) (.pair (.int .i64) (.pair (.sl (.int .u8)) (.pair (.sl (.int .u8)) (.pair (.int .i64) .unit)))))))) (.pair (.int .i64) (.pair (.int .i64) (.pair (.int .i64) (.pair (.int .i64) (.pair (.sl .bool) (.pair (.sl (.int .i64)) (.pair (.sl (.int .i64)) .unit))))))))))), (.pair .sh (.pair .sh (.pair .sh (.pair (.own (.pair .sh (.pair .sh (.pair .sh (.pair .sh (.pair (.own .sh) (.pair (.own .sh) .sh))))))) (.pair .sh (.pair .sh (.pair .sh (.pair .sh (.pair (.own .sh) (.pair (.own .sh) (.pair (.own .sh) .sh))))))))))))], true, none, false⟩
def hi24 : Hints := []
def ir24 : IR := (.letE ⟨(.all 11), [(.var 0)]⟩
 (.letE ⟨.atom, [(.fld (.var 1) 0)]⟩
 (.letE ⟨.atom, [(.fld (.var 1) 1)]⟩
 (.letE ⟨.atom, [(.fld (.var 1) 2)]⟩
 (.call 76 [(.fld (.var 1) 3)] 1
 (.letE ⟨.atom, [(.var 5)]⟩
 (.letE ⟨.atom, [(.fld (.var 1) 4)]⟩
 (.letE ⟨.atom, [(.fld (.var 1) 5)]⟩
 (.letE ⟨.atom, [(.fld (.var 1) 6)]⟩
 (.letE ⟨.atom, [(.fld (.var 1) 7)]⟩
 (.call 77 [(.fld (.var 1) 8)] 1
 (.letE ⟨.atom, [(.var 11)]⟩
 (.call 78 [(.fld (.var 1) 9)] 1
 (.letE ⟨.atom, [(.var 13)]⟩
 (.call 78 [(.fld (.var 1) 10)] 1
 (.letE ⟨.atom, [(.var 15)]⟩
 (.letE ⟨.mk, [(.var 2), (.var 3), (.var 4), (.var 6), (.var 7), (.var 8), (.var 9), (.var 10), (.var 12), (.var 14), (.var 16)]⟩
 (.letE ⟨(.all 11), [(.var 17)]⟩
 (.letE ⟨.mk, [(.fld (.var 18) 0), (.fld (.var 18) 1), (.fld (.var 18) 2), (.fld (.var 18) 3), (.fld (.var 18) 4), (.fld (.var 18) 5), (.fld (.var 18) 6), (.fld (.var 18) 7), (.fld (.var 18) 8), (.fld (.var 18) 9), (.fld (.var 18) 10)]⟩
 (.ret [(.var 19)]))))))))))))))))))))
/- loop.example/g00365/laws.szIntS -/
def sg75 : Sig := ⟨[.val, .val], [((.int .i64), .sh)], true, none, false⟩
def hi75 : Hints := []
def ir75 : IR := (.letE ⟨.len, [(.var 0)]⟩
 (.letE ⟨(.bin .sub 3), [(.var 1), (.var 2)]⟩
 (.letE ⟨(.bin .lss 3), [(.var 3), (.int .i64 (0))]⟩
 (.ite (.var 4)
 (.ret [(.int .i64 (-1))])
 (.ret [(.var 3)])))))
/- loop.example/g00365/laws.szBoolS -/
def sg74 : Sig := ⟨[.val, .val], [((.int .i64), .sh)], true, none, false⟩
def hi74 : Hints := []
def ir74 : IR := (.letE ⟨.len, [(.var 0)]⟩
 (.letE ⟨(.bin .sub 3), [(.var 1), (.var 2)]⟩
 (.letE ⟨(.bin .lss 3), [(.var 3), (.int .i64 (0))]⟩
 (.ite (.var 4)
 (.ret [(.int .i64 (-1))])
 (.ret [(.var 3)])))))
/- loop.example/g00365/laws.szByteS -/
def sg87 : Sig := ⟨[.val, .val], [((.int .i64), .sh)], true, none, false⟩
def hi87 : Hints := []
def ir87 : IR := (.letE ⟨.len, [(.var 0)]⟩
 (.letE ⟨(.bin .sub 3), [(.var 1), (.var 2)]⟩
 (.letE ⟨(.bin .lss 3), [(.var 3), (.int .i64 (0))]⟩
 (.ite (.var 4)
 (.ret [(.int .i64 (-1))])
 (.ret [(.var 3)])))))
/- loop.example/g00365/laws.szOp -/
def sg203 : Sig := ⟨[.val, .val], [((.int .i64), .sh)], true, none, false⟩
def hi203 : Hints := []
def ir203 : IR := (.letE ⟨(.all 4), [(.var 0)]⟩
 (.call 87 [(.fld (.var 2) 1), (.var 1)] 1
 (.letE ⟨(.bin .lss 3), [(.var 3), (.int .i64 (0))]⟩
 (.ite (.var 4)
 (.ret [(.int .i64 (-1))])
 (.call 87 [(.fld (.var 2) 2), (.var 3)] 1
 (.letE ⟨(.bin .lss 3), [(.var 5), (.int .i64 (0))]⟩
 (.ite (.var 6)
 (.ret [(.int .i64 (-1))])
 (.ret [(.var 5)]))))))))
/- loop.example/g00365/laws.szCmd -/
def sg185 : Sig := ⟨[.val, .val], [((.int .i64), .sh)], true, none, false⟩
def hi185 : Hints := []
def ir185 : IR := (.letE ⟨(.all 6), [(.var 0)]⟩
 (.letE ⟨.mk, [(.fld (.var 2) 2), (.fld (.var 2) 3), (.fld (.var 2) 4), (.fld (.var 2) 5)]⟩
 (.call 203 [(.var 3), (.var 1)] 1
 (.letE ⟨(.bin .lss 3), [(.var 4), (.int .i64 (0))]⟩
 (.ite (.var 5)
 (.ret [(.int .i64 (-1))])
 (.ret [(.var 4)]))))))
/- loop.example/g00365/laws.szItem -/
def sg140 : Sig := ⟨[.val, .val], [((.int .i64), .sh)], true, none, false⟩
def hi140 : Hints := []
def ir140 : IR := (.letE ⟨(.all 7), [(.var 0)]⟩
 (.letE ⟨.mk, [(.fld (.var 2) 1), (.fld (.var 2) 2), (.fld (.var 2) 3), (.fld (.var 2) 4), (.fld (.var 2) 5), (.fld (.var 2) 6)]⟩
 (.call 185 [(.var 3), (.var 1)] 1
 (.letE ⟨(.bin .lss 3), [(.var 4), (.int .i64 (0))]⟩
 (.ite (.var 5)
 (.ret [(.int .i64 (-1))])
 (.ret [(.var 4)]))))))
/- loop.example/g00365/laws.szItemS -/
def sg73 : Sig := ⟨[.val, .val], [((.int .i64), .sh)], true, none, false⟩
def hi73 : Hints := [((0, 5), ⟨[(1, .sh), (4, .sh), (5, .sh)], [], []⟩)]
def ir73 : IR := (.letE ⟨.len, [(.var 0)]⟩
 (.letE ⟨(.bin .sub 3), [(.var 1), (.var 2)]⟩
 (.letE ⟨(.bin .lss 3), [(.var 3), (.int .i64 (0))]⟩
 (.ite (.var 4)
 (.ret [(.int .i64 (-1))])
 (.label true
 (.letE ⟨.len, [(.var 0)]⟩
 (.letE ⟨(.bin .lss 3), [(.var 7), (.var 8)]⟩
 (.ite (.var 9)
 (.letE ⟨(.idx 7), [(.var 0), (.var 7)]⟩
 (.letE ⟨(.cells 0 7), [(.var 10)]⟩
 (.call 140 [(.var 11), (.var 5)] 1
 (.letE ⟨(.bin .lss 3), [(.var 12), (.int .i64 (0))]⟩
 (.ite (.var 13)
 (.ret [(.int .i64 (-1))])
 (.letE ⟨(.bin .add 3), [(.var 7), (.int .i64 (1))]⟩
 (.jump 0 [(.var 12), (.var 6), (.var 14)])))))))
 (.ret [(.var 5)]))))
 (.jump 0 [(.var 3), (.int .i64 (0)), (.int .i64 (0))]))))))
/- loop.example/g00365/laws.szNode -/
def sg22 : Sig := ⟨[.val, .val], [((.int .i64), .sh)], true, none, false⟩
def hi22 : Hints := []
def ir22 : IR := (.letE ⟨(.all 11), [(.var 0)]⟩
 (.call 73 [(.fld (.var 2) 3), (.var 1)] 1
 (.letE ⟨(.bin .lss 3), [(.var 3), (.int .i64 (0))]⟩
 (.ite (.var 4)
 (.ret [(.int .i64 (-1))])
 (.call 74 [(.fld (.var 2) 8), (.var 3)] 1
 (.letE ⟨(.bin .lss 3), [(.var 5), (.int .i64 (0))]⟩
 (.ite (.var 6)
 (.ret [(.int .i64 (-1))])
 (.call 75 [(.fld (.var 2) 9), (.var 5)] 1
 (.letE ⟨(.bin .lss 3), [(.var 7), (.int .i64 (0))]⟩
 (.ite (.var 8)
 (.ret [(.int .i64 (-1))])
 (.call 75 [(.fld (.var 2) 10), (.var 7)] 1
 (.letE ⟨(.bin .lss 3), [(.var 9), (.int .i64 (0))]⟩
 (.ite (.var 10)
 (.ret [(.int .i64 (-1))])
 (.ret [(.var 9)]))))))))))))))
/- loop.example/g00365/laws.eqNode -/
def sg26 : Sig := ⟨[.val, .val], [(.bool, .sh)], true, none, false⟩
def hi26 : Hints := []
def ir26 : IR := (.letE ⟨(.all 11), [(.var 0)]⟩
 (.letE ⟨(.all 11), [(.var 1)]⟩
 (.letE ⟨(.bin .neq 3), [(.fld (.var 2) 0), (.fld (.var 3) 0)]⟩
 (.ite (.var 4)
 (.ret [(.bool false)])
 (.letE ⟨(.bin .neq 3), [(.fld (.var 2) 1), (.fld (.var 3) 1)]⟩
 (.ite (.var 5)
 (.ret [(.bool false)])
 (.letE ⟨(.bin .neq 3), [(.fld (.var 2) 2), (.fld (.var 3) 2)]⟩
 (.ite (.var 6)
 (.ret [(.bool false)])
 (.call 81 [(.fld (.var 2) 3), (.fld (.var 3) 3)] 1
 (.letE ⟨(.un .not), [(.var 7)]⟩
 (.ite (.var 8)
 (.ret [(.bool false)])
 (.letE ⟨(.bin .neq 3), [(.fld (.var 2) 4), (.fld (.var 3) 4)]⟩
 (.ite (.var 9)
 (.ret [(.bool false)])
 (.letE ⟨(.bin .neq 3), [(.fld (.var 2) 5), (.fld (.var 3) 5)]⟩
 (.ite (.var 10)
 (.ret [(.bool false)])
 (.letE ⟨(.bin .neq 3), [(.fld (.var 2) 6), (.fld (.var 3) 6)]⟩
 (.ite (.var 11)
 (.ret [(.bool false)])
 (.letE ⟨(.bin .neq 3), [(.fld (.var 2) 7), (.fld (.var 3) 7)]⟩
 (.ite (.var 12)
 (.ret [(.bool false)])
 (.call 82 [(.fld (.var 2) 8), (.fld (.var 3) 8)] 1
 (.letE ⟨(.un .not), [(.var 13)]⟩
 (.ite (.var 14)
 (.ret [(.bool false)])
 (.call 29 [(.fld (.var 2) 9), (.fld (.var 3) 9)] 1
 (.letE ⟨(.un .not), [(.var 15)]⟩
 (.ite (.var 16)
 (.ret [(.bool false)])
 (.call 29 [(.fld (.var 2) 10), (.fld (.var 3) 10)] 1
 (.letE ⟨(.un .not), [(.var 17)]⟩
 (.ite (.var 18)
 (.ret [(.bool false)])
 (.ret [(.bool true)])))))))))))))))))))))))))))))
/- slices.IndexFunc[[]int,int] -/
def sg143 : Sig := ⟨[.val, (.fn 84 1)], [((.int .i64), .sh)], true, none, false⟩
def hi143 : Hints := [((0, 2), ⟨[(4, .sh), (8, .sh)], [], []⟩)]
def ir143 : IR := (.letE ⟨.len, [(.var 0)]⟩
 (.label true
 (.letE ⟨(.bin .lss 3), [(.var 4), (.var 2)]⟩
 (.ite (.var 5)
 (.letE ⟨(.idx 1), [(.var 0), (.var 4)]⟩
 (.letE ⟨.a, [(.fld (.var 6) 0)]⟩
 (.call 84 [(.var 7), (.var 1)] 1
 (.ite (.var 8)
 (.ret [(.var 4)])
 (.letE ⟨(.bin .add 3), [(.var 4), (.int .i64 (1))]⟩
 (.jump 0 [(.var 3), (.var 9)]))))))
 (.ret [(.int .i64 (-1))])))
 (.jump 0 [(.int .i64 (0)), (.int .i64 (0))])))
/- slices.DeleteFunc[[]int,int] -/
def sg83 : Sig := ⟨[(.fn 84 1)], [((.sl (.int .i64)), (.own .sh))], true, some (0, .mov (.sl (.int .i64)) (.own .sh)), false⟩
def hi83 : Hints := [((0, 5), ⟨[(5, .sh), (6, .sh), (0, (.own .sh)), (4, (.own .sh))], [], []⟩)]
def ir83 : IR := (.call 143 [(.var 1), (.var 0)] 1
 (.letE ⟨(.bin .eql 3), [(.var 2), (.int .i64 (-1))]⟩
 (.ite (.var 3)
 (.ret [(.var 1)])
 (.letE ⟨(.bin .add 3), [(.var 2), (.int .i64 (1))]⟩
 (.label true
 (.letE ⟨.len, [(.var 7)]⟩
 (.letE ⟨(.bin .lss 3), [(.var 6), (.var 9)]⟩
 (.ite (.var 10)
 (.letE ⟨(.idx 1), [(.var 7), (.var 6)]⟩
 (.letE ⟨(.idx 1), [(.var 7), (.var 6)]⟩
 (.letE ⟨.a, [(.fld (.var 12) 0)]⟩
 (.call 84 [(.var 13), (.var 0)] 1
 (.letE ⟨(.un .not), [(.var 14)]⟩
 (.ite (.var 15)
 (.letE ⟨(.idx 1), [(.var 7), (.var 5)]⟩
 (.letE ⟨(.setE 1), [(.var 7), (.var 5), (.var 13)]⟩
 (.letE ⟨(.bin .add 3), [(.var 5), (.int .i64 (1))]⟩
 (.letE ⟨(.bin .add 3), [(.var 6), (.int .i64 (1))]⟩
 (.jump 0 [(.var 18), (.var 19), (.var 17), (.var 8)])))))
 (.letE ⟨(.bin .add 3), [(.var 6), (.int .i64 (1))]⟩
 (.jump 0 [(.var 5), (.var 16), (.var 7), (.var 8)]))))))))
 (.letE ⟨(.idx 1), [(.var 7), (.var 5)]⟩
 (.letE ⟨.clr, [(.int .i64 (0)), (.var 7), (.var 5)]⟩
 (.letE ⟨(.sub 1 false true), [(.var 12), (.var 5)]⟩
 (.ret [(.var 13)])))))))
 (.jump 0 [(.var 2), (.var 4), (.var 1), (.nil (.int .i64))]))))))
/- loop.example/g00365/impl.KeyOk -/
def sg152 : Sig := ⟨[.val], [(.bool, .sh)], true, none, false⟩
def hi152 : Hints := [((0, 2), ⟨[(2, .sh), (7, .sh)], [], []⟩)]
def ir152 : IR := (.letE ⟨.len, [(.var 0)]⟩
 (.label true
 (.letE ⟨(.bin .lss 3), [(.var 3), (.var 1)]⟩
 (.ite (.var 4)
 (.letE ⟨(.idx 1), [(.var 0), (.var 3)]⟩
 (.letE ⟨.a, [(.fld (.var 5) 0)]⟩
 (.letE ⟨(.bin .lss 5), [(.var 6), (.int .u8 (97))]⟩
 (.ite (.var 7)
 (.letE ⟨(.bin .neq 5), [(.var 6), (.int .u8 (47))]⟩
 (.ite (.var 8)
 (.ret [(.bool false)])
 (.letE ⟨(.bin .add 3), [(.var 3), (.int .i64 (1))]⟩
 (.jump 0 [(.var 2), (.var 9)]))))
 (.letE ⟨(.bin .gtr 5), [(.var 6), (.int .u8 (122))]⟩
 (.ite (.var 8)
 (.letE ⟨(.bin .neq 5), [(.var 6), (.int .u8 (47))]⟩
 (.ite (.var 9)
 (.ret [(.bool false)])
 (.letE ⟨(.bin .add 3), [(.var 3), (.int .i64 (1))]⟩
 (.jump 0 [(.var 2), (.var 10)]))))
 (.letE ⟨(.bin .add 3), [(.var 3), (.int .i64 (1))]⟩
 (.jump 0 [(.var 2), (.var 9)]))))))))
 (.letE ⟨.len, [(.var 0)]⟩
 (.call 60 [(.var 5), (.int .i64 (1)), (.int .i64 (20))] 1
 (.ret [(.var 6)])))))
 (.jump 0 [(.bool false), (.int .i64 (0))])))
/- loop.example/g00365/impl.OpOk -/
def sg129 : Sig := ⟨[.val], [(.bool, .sh)], true, none, false⟩
def hi129 : Hints := [((1, 19), ⟨[(2, .sh), (3, .sh), (4, .sh), (5, .sh), (6, .sh)], [], [7, 8, 9, 10, 11, 12, 13, 14, 15, 16, 17, 18, 19, 20, 21, 22, 23, 24]⟩)]
def ir129 : IR := (.letE ⟨(.all 4), [(.var 0)]⟩
 (.label false
 (.call 60 [(.fld (.var 1) 3), (.var 5), (.var 6)] 1
 (.ite (.var 7)
 (.ite (.var 3)
 (.call 152 [(.fld (.var 1) 1)] 1
 (.ite (.var 8)
 (.ite (.var 4)
 (.call 181 [(.fld (.var 1) 2)] 1
 (.ite (.var 9)
 (.ret [(.bool true)])
 (.letE ⟨(.un .not), [(.var 4)]⟩
 (.ite (.var 10)
 (.letE ⟨.len, [(.fld (.var 1) 2)]⟩
 (.letE ⟨(.bin .eql 3), [(.var 11), (.int .i64 (0))]⟩
 (.ret [(.var 12)])))
 (.ret [(.bool false)])))))
 (.letE ⟨(.un .not), [(.var 4)]⟩
 (.ite (.var 9)
 (.letE ⟨.len, [(.fld (.var 1) 2)]⟩
 (.letE ⟨(.bin .eql 3), [(.var 10), (.int .i64 (0))]⟩
 (.ret [(.var 11)])))
 (.ret [(.bool false)]))))
 (.letE ⟨(.un .not), [(.var 3)]⟩
 (.ite (.var 9)
 (.letE ⟨.len, [(.fld (.var 1) 1)]⟩
 (.letE ⟨(.bin .eql 3), [(.var 10), (.int .i64 (0))]⟩
 (.ite (.var 11)
 (.ite (.var 4)
 (.call 181 [(.fld (.var 1) 2)] 1
 (.ite (.var 12)
 (.ret [(.bool true)])
 (.letE ⟨(.un .not), [(.var 4)]⟩
 (.ite (.var 13)
 (.letE ⟨.len, [(.fld (.var 1) 2)]⟩
 (.letE ⟨(.bin .eql 3), [(.var 14), (.int .i64 (0))]⟩
 (.ret [(.var 15)])))
 (.ret [(.bool false)])))))
 (.letE ⟨(.un .not), [(.var 4)]⟩
 (.ite (.var 12)
 (.letE ⟨.len, [(.fld (.var 1) 2)]⟩
 (.letE ⟨(.bin .eql 3), [(.var 13), (.int .i64 (0))]⟩
 (.ret [(.var 14)])))
 (.ret [(.bool false)]))))
 (.ret [(.bool false)]))))
 (.ret [(.bool false)])))))
 (.letE ⟨(.un .not), [(.var 3)]⟩
 (.ite (.var 8)
 (.letE ⟨.len, [(.fld (.var 1) 1)]⟩
 (.letE ⟨(.bin .eql 3), [(.var 9), (.int .i64 (0))]⟩
 (.ite (.var 10)
 (.ite (.var 4)
 (.call 181 [(.fld (.var 1) 2)] 1
 (.ite (.var 11)
 (.ret [(.bool true)])
 (.letE ⟨(.un .not), [(.var 4)]⟩
 (.ite (.var 12)
 (.letE ⟨.len, [(.fld (.var 1) 2)]⟩
 (.letE ⟨(.bin .eql 3), [(.var 13), (.int .i64 (0))]⟩
 (.ret [(.var 14)])))
 (.ret [(.bool false)])))))
 (.letE ⟨(.un .not), [(.var 4)]⟩
 (.ite (.var 11)
 (.letE ⟨.len, [(.fld (.var 1) 2)]⟩
 (.letE ⟨(.bin .eql 3), [(.var 12), (.int .i64 (0))]⟩
 (.ret [(.var 13)])))
 (.ret [(.bool false)]))))
 (.ret [(.bool false)]))))
 (.ret [(.bool false)]))))
 (.ret [(.bool false)])))
 (.letE ⟨(.bin .eql 3), [(.fld (.var 1) 0), (.int .i64 (0))]⟩
 (.ite (.var 2)
 (.jump 0 [(.bool false), (.bool false), (.bool false), (.int .i64 (0)), (.int .i64 (0))])
 (.letE ⟨(.bin .eql 3), [(.fld (.var 1) 0), (.int .i64 (1))]⟩
 (.ite (.var 3)
 (.jump 0 [(.bool false), (.bool true), (.bool true), (.int .i64 (0)), (.int .i64 (0))])
 (.letE ⟨(.bin .eql 3), [(.fld (.var 1) 0), (.int .i64 (2))]⟩
 (.ite (.var 4)
 (.jump 0 [(.bool false), (.bool true), (.bool true), (.int .i64 (0)), (.int .i64 (1000000))])
 (.letE ⟨(.bin .eql 3), [(.fld (.var 1) 0), (.int .i64 (3))]⟩
 (.ite (.var 5)
 (.jump 0 [(.bool false), (.bool true), (.bool false), (.int .i64 (0)), (.int .i64 (0))])
 (.letE ⟨(.bin .eql 3), [(.fld (.var 1) 0), (.int .i64 (4))]⟩
 (.ite (.var 6)
 (.jump 0 [(.bool false), (.bool false), (.bool false), (.int .i64 (0)), (.int .i64 (1))])
 (.letE ⟨(.bin .eql 3), [(.fld (.var 1) 0), (.int .i64 (5))]⟩
 (.ite (.var 7)
 (.jump 0 [(.bool false), (.bool false), (.bool false), (.int .i64 (1)), (.int .i64 (1000000))])
 (.letE ⟨(.bin .eql 3), [(.fld (.var 1) 0), (.int .i64 (6))]⟩
 (.ite (.var 8)
 (.jump 0 [(.bool false), (.bool true), (.bool true), (.int .i64 (1)), (.int .i64 (1000000))])
 (.letE ⟨(.bin .eql 3), [(.fld (.var 1) 0), (.int .i64 (7))]⟩
 (.ite (.var 9)
 (.jump 0 [(.bool false), (.bool true), (.bool false), (.int .i64 (1)), (.int .i64 (1000000))])
 (.ret [(.bool false)])))))))))))))))))))
/- loop.example/g00365/impl.CmdOk -/
def sg67 : Sig := ⟨[.val], [(.bool, .sh)], true, none, false⟩
def hi67 : Hints := []
def ir67 : IR := (.letE ⟨(.all 6), [(.var 0)]⟩
 (.letE ⟨.mk, [(.fld (.var 1) 0), (.fld (.var 1) 1), (.fld (.var 1) 2), (.fld (.var 1) 3), (.fld (.var 1) 4), (.fld (.var 1) 5)]⟩
 (.call 128 [] 1
 (.call 127 [(.var 2), (.var 3)] 1
 (.ite (.var 4)
 (.ret [(.bool true)])
 (.call 60 [(.fld (.var 1) 0), (.int .i64 (0)), (.int .i64 (3))] 1
 (.ite (.var 5)
 (.call 60 [(.fld (.var 1) 1), (.int .i64 (1)), (.int .i64 (1000000))] 1
 (.ite (.var 6)
 (.letE ⟨.mk, [(.fld (.var 1) 2), (.fld (.var 1) 3), (.fld (.var 1) 4), (.fld (.var 1) 5)]⟩
 (.call 129 [(.var 7)] 1
 (.ret [(.var 8)])))
 (.ret [(.bool false)])))
 (.ret [(.bool false)]))))))))
/- loop.example/g00365/impl.isTerm -/
def sg122 : Sig := ⟨[.val], [(.bool, .sh)], true, none, false⟩
def hi122 : Hints := []
def ir122 : IR := (.call 60 [(.var 0), (.int .i64 (1)), (.int .i64 (100000))] 1
 (.ret [(.var 1)]))
/- loop.example/g00365/impl.ItemOk -/
def sg61 : Sig := ⟨[.val], [(.bool, .sh)], true, none, false⟩
def hi61 : Hints := []
def ir61 : IR := (.letE ⟨(.all 7), [(.var 0)]⟩
 (.call 122 [(.fld (.var 1) 0)] 1
 (.ite (.var 2)
 (.letE ⟨.mk, [(.fld (.var 1) 1), (.fld (.var 1) 2), (.fld (.var 1) 3), (.fld (.var 1) 4), (.fld (.var 1) 5), (.fld (.var 1) 6)]⟩
 (.call 67 [(.var 3)] 1
 (.ret [(.var 4)])))
 (.ret [(.bool false)]))))
/- loop.example/g00365/impl.NodeOk -/
def sg15 : Sig := ⟨[.val, .val], [(.bool, .sh)], true, none, false⟩
def hi15 : Hints := [((1, 19), ⟨[(193, .sh)], [], [145, 146, 147, 148, 149, 150, 151, 152, 153, 154, 155, 156, 157, 158, 159, 160, 161, 162, 163, 164, 165, 166, 167, 168, 169, 170, 171, 172, 173, 174, 175, 176, 177, 178, 179, 180, 181, 182, 183, 184, 185, 186, 187, 188, 189, 190, 191, 192]⟩), ((0, 16), ⟨[(4, .sh), (142, .sh)], [], []⟩), ((1, 14), ⟨[(140, .sh)], [], [104, 105, 106, 107, 108, 109, 110, 111, 112, 113, 114, 115, 116, 117, 118, 119, 120, 121, 122, 123, 124, 125, 126, 127, 128, 129, 130, 131, 132, 133, 134, 135, 136, 137, 138, 139]⟩), ((1, 12), ⟨[(103, .sh)], [], [64, 65, 66, 67, 68, 69, 70, 71, 72, 73, 74, 75, 76, 77, 78, 79, 80, 81, 82, 83, 84, 85, 86, 87, 88, 89, 90, 91, 92, 93, 94, 95, 96, 97, 98, 99, 100, 101, 102]⟩), ((1, 8), ⟨[(60, .sh)], [], [49, 50, 51, 52, 53, 54, 55, 56, 57, 58, 59]⟩), ((0, 5), ⟨[(4, .sh), (5, .sh), (45, .sh)], [], []⟩), ((1, 2), ⟨[(41, .sh)], [], [9, 10, 11, 12, 13, 14, 15, 16, 17, 18, 19, 20, 21, 22, 23, 24, 25, 26, 27, 28, 29, 30, 31, 32, 33, 34, 35, 36, 37, 38, 39, 40]⟩)]
def ir15 : IR := (.letE ⟨(.all 11), [(.var 0)]⟩
 (.label false
 (.ite (.var 3)
 (.ret [(.bool false)])
 (.letE ⟨.len, [(.fld (.var 2) 3)]⟩
 (.label true
 (.letE ⟨(.bin .lss 3), [(.var 7), (.var 4)]⟩
 (.ite (.var 8)
 (.letE ⟨(.idx 7), [(.fld (.var 2) 3), (.var 7)]⟩
 (.letE ⟨(.cells 0 7), [(.var 9)]⟩
 (.letE ⟨(.all 7), [(.var 10)]⟩
 (.label false
 (.ite (.var 12)
 (.ret [(.bool false)])
 (.letE ⟨(.bin .add 3), [(.var 7), (.int .i64 (1))]⟩
 (.jump 1 [(.var 5), (.fld (.var 11) 0), (.var 13)])))
 (.letE ⟨.mk, [(.fld (.var 11) 0), (.fld (.var 11) 1), (.fld (.var 11) 2), (.fld (.var 11) 3), (.fld (.var 11) 4), (.fld (.var 11) 5), (.fld (.var 11) 6)]⟩
 (.call 61 [(.var 12)] 1
 (.letE ⟨(.un .not), [(.var 13)]⟩
 (.ite (.var 14)
 (.jump 2 [(.bool true)])
 (.call 60 [(.fld (.var 11) 0), (.var 6), (.fld (.var 2) 1)] 1
 (.letE ⟨(.un .not), [(.var 15)]⟩
 (.jump 2 [(.var 16)])))))))))))
 (.label false
 (.ite (.var 9)
 (.ret [(.bool false)])
 (.label false
 (.ite (.var 10)
 (.ret [(.bool false)])
 (.label true
 (.letE ⟨(.bin .lss 3), [(.var 12), (.var 1)]⟩
 (.ite (.var 13)
 (.label false
 (.ite (.var 14)
 (.ret [(.bool false)])
 (.letE ⟨(.bin .add 3), [(.var 12), (.int .i64 (1))]⟩
 (.jump 4 [(.var 11), (.var 15)])))
 (.letE ⟨(.bin .eql 3), [(.fld (.var 2) 5), (.int .i64 (2))]⟩
 (.ite (.var 14)
 (.letE ⟨(.idx 1), [(.fld (.var 2) 9), (.var 12)]⟩
 (.letE ⟨.a, [(.fld (.var 15) 0)]⟩
 (.letE ⟨.len, [(.fld (.var 2) 3)]⟩
 (.letE ⟨(.bin .add 3), [(.var 17), (.int .i64 (1))]⟩
 (.call 60 [(.var 16), (.int .i64 (1)), (.var 18)] 1
 (.letE ⟨(.un .not), [(.var 19)]⟩
 (.ite (.var 20)
 (.jump 5 [(.bool true)])
 (.letE ⟨(.idx 1), [(.fld (.var 2) 10), (.var 12)]⟩
 (.letE ⟨.a, [(.fld (.var 21) 0)]⟩
 (.letE ⟨.len, [(.fld (.var 2) 3)]⟩
 (.call 60 [(.var 22), (.int .i64 (0)), (.var 23)] 1
 (.letE ⟨(.un .not), [(.var 24)]⟩
 (.ite (.var 25)
 (.jump 5 [(.bool true)])
 (.letE ⟨(.bin .neq 3), [(.fld (.var 2) 5), (.int .i64 (2))]⟩
 (.ite (.var 26)
 (.letE ⟨(.idx 1), [(.fld (.var 2) 9), (.var 12)]⟩
 (.letE ⟨.a, [(.fld (.var 27) 0)]⟩
 (.letE ⟨(.bin .neq 3), [(.var 28), (.int .i64 (0))]⟩
 (.ite (.var 29)
 (.jump 5 [(.bool true)])
 (.letE ⟨(.idx 1), [(.fld (.var 2) 10), (.var 12)]⟩
 (.letE ⟨.a, [(.fld (.var 30) 0)]⟩
 (.letE ⟨(.bin .neq 3), [(.var 31), (.int .i64 (0))]⟩
 (.jump 5 [(.var 32)]))))))))
 (.jump 5 [(.bool false)]))))))))))))))))
 (.letE ⟨(.bin .neq 3), [(.fld (.var 2) 5), (.int .i64 (2))]⟩
 (.ite (.var 15)
 (.letE ⟨(.idx 1), [(.fld (.var 2) 9), (.var 12)]⟩
 (.letE ⟨.a, [(.fld (.var 16) 0)]⟩
 (.letE ⟨(.bin .neq 3), [(.var 17), (.int .i64 (0))]⟩
 (.ite (.var 18)
 (.jump 5 [(.bool true)])
 (.letE ⟨(.idx 1), [(.fld (.var 2) 10), (.var 12)]⟩
 (.letE ⟨.a, [(.fld (.var 19) 0)]⟩
 (.letE ⟨(.bin .neq 3), [(.var 20), (.int .i64 (0))]⟩
 (.jump 5 [(.var 21)]))))))))
 (.jump 5 [(.bool false)]))))))
 (.ret [(.bool true)])))
 (.jump 4 [(.var 5), (.int .i64 (0))])))
 (.letE ⟨(.bin .eql 3), [(.fld (.var 2) 5), (.int .i64 (0))]⟩
 (.ite (.var 10)
 (.call 62 [(.fld (.var 2) 8), (.bool true)] 1
 (.ite (.var 11)
 (.jump 3 [(.bool true)])
 (.letE ⟨(.bin .neq 3), [(.fld (.var 2) 5), (.int .i64 (0))]⟩
 (.ite (.var 12)
 (.letE ⟨(.bin .lss 3), [(.fld (.var 2) 1), (.int .i64 (1))]⟩
 (.ite (.var 13)
 (.jump 3 [(.bool true)])
 (.letE ⟨(.bin .neq 3), [(.fld (.var 2) 2), (.fld (.var 2) 0)]⟩
 (.ite (.var 14)
 (.jump 3 [(.bool true)])
 (.letE ⟨(.bin .eql 3), [(.fld (.var 2) 5), (.int .i64 (2))]⟩
 (.ite (.var 15)
 (.letE ⟨(.bin .neq 3), [(.fld (.var 2) 6), (.fld (.var 2) 0)]⟩
 (.jump 3 [(.var 16)]))
 (.jump 3 [(.bool false)])))))))
 (.letE ⟨(.bin .eql 3), [(.fld (.var 2) 5), (.int .i64 (2))]⟩
 (.ite (.var 13)
 (.letE ⟨(.bin .neq 3), [(.fld (.var 2) 6), (.fld (.var 2) 0)]⟩
 (.jump 3 [(.var 14)]))
 (.jump 3 [(.bool false)])))))))
 (.letE ⟨(.bin .neq 3), [(.fld (.var 2) 5), (.int .i64 (0))]⟩
 (.ite (.var 11)
 (.letE ⟨(.bin .lss 3), [(.fld (.var 2) 1), (.int .i64 (1))]⟩
 (.ite (.var 12)
 (.jump 3 [(.bool true)])
 (.letE ⟨(.bin .neq 3), [(.fld (.var 2) 2), (.fld (.var 2) 0)]⟩
 (.ite (.var 13)
 (.jump 3 [(.bool true)])
 (.letE ⟨(.bin .eql 3), [(.fld (.var 2) 5), (.int .i64 (2))]⟩
 (.ite (.var 14)
 (.letE ⟨(.bin .neq 3), [(.fld (.var 2) 6), (.fld (.var 2) 0)]⟩
 (.jump 3 [(.var 15)]))
 (.jump 3 [(.bool false)])))))))
 (.letE ⟨(.bin .eql 3), [(.fld (.var 2) 5), (.int .i64 (2))]⟩
 (.ite (.var 12)
 (.letE ⟨(.bin .neq 3), [(.fld (.var 2) 6), (.fld (.var 2) 0)]⟩
 (.jump 3 [(.var 13)]))
 (.jump 3 [(.bool false)])))))))))
 (.letE ⟨.len, [(.fld (.var 2) 3)]⟩
 (.call 60 [(.fld (.var 2) 4), (.int .i64 (0)), (.var 9)] 1
 (.letE ⟨(.un .not), [(.var 10)]⟩
 (.ite (.var 11)
 (.jump 2 [(.bool true)])
 (.call 60 [(.fld (.var 2) 5), (.int .i64 (0)), (.int .i64 (2))] 1
 (.letE ⟨(.un .not), [(.var 12)]⟩
 (.ite (.var 13)
 (.jump 2 [(.bool true)])
 (.call 60 [(.fld (.var 2) 7), (.int .i64 (0)), (.int .i64 (20))] 1
 (.letE ⟨(.un .not), [(.var 14)]⟩
 (.ite (.var 15)
 (.jump 2 [(.bool true)])
 (.letE ⟨.len, [(.fld (.var 2) 8)]⟩
 (.letE ⟨(.bin .neq 3), [(.var 16), (.var 1)]⟩
 (.ite (.var 17)
 (.jump 2 [(.bool true)])
 (.letE ⟨.len, [(.fld (.var 2) 9)]⟩
 (.letE ⟨(.bin .neq 3), [(.var 18), (.var 1)]⟩
 (.ite (.var 19)
 (.jump 2 [(.bool true)])
 (.letE ⟨.len, [(.fld (.var 2) 10)]⟩
 (.letE ⟨(.bin .neq 3), [(.var 20), (.var 1)]⟩
 (.jump 2 [(.var 21)]))))))))))))))))))))))
 (.jump 1 [(.bool false), (.int .i64 (1)), (.int .i64 (0))]))))
 (.call 59 [(.fld (.var 2) 0), (.var 1)] 1
 (.letE ⟨(.un .not), [(.var 3)]⟩
 (.ite (.var 4)
 (.jump 0 [(.bool true)])
 (.call 60 [(.fld (.var 2) 1), (.int .i64 (0)), (.int .i64 (100000))] 1
 (.letE ⟨(.un .not), [(.var 5)]⟩
 (.ite (.var 6)
 (.jump 0 [(.bool true)])
 (.letE ⟨(.bin .sub 3), [(.var 1), (.int .i64 (1))]⟩
 (.call 60 [(.fld (.var 2) 2), (.int .i64 (-1)), (.var 7)] 1
 (.letE ⟨(.un .not), [(.var 8)]⟩
 (.ite (.var 9)
 (.jump 0 [(.bool true)])
 (.letE ⟨(.bin .sub 3), [(.var 1), (.int .i64 (1))]⟩
 (.call 60 [(.fld (.var 2) 6), (.int .i64 (-1)), (.var 10)] 1
 (.letE ⟨(.un .not), [(.var 11)]⟩
 (.ite (.var 12)
 (.jump 0 [(.bool true)])
 (.letE ⟨.len, [(.fld (.var 2) 3)]⟩
 (.letE ⟨(.bin .gtr 3), [(.var 13), (.int .i64 (400))]⟩
 (.jump 0 [(.var 14)])))))))))))))))))))
/- loop.example/g00365/impl.isLeader -/
def sg79 : Sig := ⟨[.val, .val], [(.bool, .sh)], true, none, false⟩
def hi79 : Hints := []
def ir79 : IR := (.letE ⟨(.all 11), [(.var 0)]⟩
 (.letE ⟨.mk, [(.fld (.var 2) 0), (.fld (.var 2) 1), (.fld (.var 2) 2), (.fld (.var 2) 3), (.fld (.var 2) 4), (.fld (.var 2) 5), (.fld (.var 2) 6), (.fld (.var 2) 7), (.fld (.var 2) 8), (.fld (.var 2) 9), (.fld (.var 2) 10)]⟩
 (.call 15 [(.var 3), (.var 1)] 1
 (.ite (.var 4)
 (.letE ⟨(.bin .eql 3), [(.fld (.var 2) 5), (.int .i64 (2))]⟩
 (.ret [(.var 5)]))
 (.ret [(.bool false)])))))
/- loop.example/g00365/impl.Behind -/
def sg28 : Sig := ⟨[.val, .val], [((.sl (.int .i64)), (.own .sh))], true, none, false⟩
def hi28 : Hints := []
def ir28 : IR := (.letE ⟨(.all 11), [(.var 0)]⟩
 (.letE ⟨.mk, [(.fld (.var 2) 0), (.fld (.var 2) 1), (.fld (.var 2) 2), (.fld (.var 2) 3), (.fld (.var 2) 4), (.fld (.var 2) 5), (.fld (.var 2) 6), (.fld (.var 2) 7), (.fld (.var 2) 8), (.fld (.var 2) 9), (.fld (.var 2) 10)]⟩
 (.call 79 [(.var 3), (.var 1)] 1
 (.letE ⟨(.un .not), [(.var 4)]⟩
 (.ite (.var 5)
 (.ret [(.nil (.int .i64))])
 (.letE ⟨.mk, [(.fld (.var 2) 0), (.fld (.var 2) 1), (.fld (.var 2) 2), (.fld (.var 2) 3), (.fld (.var 2) 4), (.fld (.var 2) 5), (.fld (.var 2) 6), (.fld (.var 2) 7), (.fld (.var 2) 8), (.fld (.var 2) 9), (.fld (.var 2) 10)]⟩
 (.call 80 [(.var 6)] 1
 (.letE ⟨.mk, [(.fld (.var 2) 0), (.fld (.var 2) 1), (.fld (.var 2) 2), (.fld (.var 2) 3), (.fld (.var 2) 4), (.fld (.var 2) 5), (.fld (.var 2) 6), (.fld (.var 2) 7), (.fld (.var 2) 8), (.fld (.var 2) 9), (.fld (.var 2) 10)]⟩
 (.call 83 [(.var 8), (.var 7)] 1
 (.ret [(.var 9)]))))))))))
/- loop.example/g00365/laws.FnExactBehind -/
def sg7 : Sig := ⟨[.val, .val], [(.bool, .sh)], true, none, false⟩
def hi7 : Hints := []
def ir7 : IR := (.letE ⟨(.all 11), [(.var 0)]⟩
 (.letE ⟨.mk, [(.fld (.var 2) 0), (.fld (.var 2) 1), (.fld (.var 2) 2), (.fld (.var 2) 3), (.fld (.var 2) 4), (.fld (.var 2) 5), (.fld (.var 2) 6), (.fld (.var 2) 7), (.fld (.var 2) 8), (.fld (.var 2) 9), (.fld (.var 2) 10)]⟩
 (.call 22 [(.var 3), (.int .i64 (1048576))] 1
 (.letE ⟨(.bin .lss 3), [(.var 4), (.int .i64 (0))]⟩
 (.ite (.var 5)
 (.ret [(.bool true)])
 (.letE ⟨.mk, [(.fld (.var 2) 0), (.fld (.var 2) 1), (.fld (.var 2) 2), (.fld (.var 2) 3), (.fld (.var 2) 4), (.fld (.var 2) 5), (.fld (.var 2) 6), (.fld (.var 2) 7), (.fld (.var 2) 8), (.fld (.var 2) 9), (.fld (.var 2) 10)]⟩
 (.call 24 [(.var 6)] 1
 (.call 27 [(.var 7), (.var 1)] 1
 (.letE ⟨.mk, [(.fld (.var 2) 0), (.fld (.var 2) 1), (.fld (.var 2) 2), (.fld (.var 2) 3), (.fld (.var 2) 4), (.fld (.var 2) 5), (.fld (.var 2) 6), (.fld (.var 2) 7), (.fld (.var 2) 8), (.fld (.var 2) 9), (.fld (.var 2) 10)]⟩
 (.call 24 [(.var 9)] 1
 (.letE ⟨(.all 11), [(.var 10)]⟩
 (.letE ⟨.mk, [(.fld (.var 11) 0), (.fld (.var 11) 1), (.fld (.var 11) 2), (.fld (.var 11) 3), (.fld (.var 11) 4), (.fld (.var 11) 5), (.fld (.var 11) 6), (.fld (.var 11) 7), (.fld (.var 11) 8), (.fld (.var 11) 9), (.fld (.var 11) 10)]⟩
 (.call 28 [(.var 12), (.var 1)] 1
 (.call 29 [(.var 13), (.var 8)] 1
 (.letE ⟨(.un .not), [(.var 14)]⟩
 (.ite (.var 15)
 (.ret [(.bool false)])
 (.letE ⟨.mk, [(.fld (.var 2) 0), (.fld (.var 2) 1), (.fld (.var 2) 2), (.fld (.var 2) 3), (.fld (.var 2) 4), (.fld (.var 2) 5), (.fld (.var 2) 6), (.fld (.var 2) 7), (.fld (.var 2) 8), (.fld (.var 2) 9), (.fld (.var 2) 10)]⟩
 (.call 24 [(.var 16)] 1
 (.letE ⟨.mk, [(.fld (.var 11) 0), (.fld (.var 11) 1), (.fld (.var 11) 2), (.fld (.var 11) 3), (.fld (.var 11) 4), (.fld (.var 11) 5), (.fld (.var 11) 6), (.fld (.var 11) 7), (.fld (.var 11) 8), (.fld (.var 11) 9), (.fld (.var 11) 10)]⟩
 (.call 26 [(.var 18), (.var 17)] 1
 (.letE ⟨(.un .not), [(.var 19)]⟩
 (.ite (.var 20)
 (.ret [(.bool false)])
 (.letE ⟨.mk, [(.fld (.var 11) 0), (.fld (.var 11) 1), (.fld (.var 11) 2), (.fld (.var 11) 3), (.fld (.var 11) 4), (.fld (.var 11) 5), (.fld (.var 11) 6), (.fld (.var 11) 7), (.fld (.var 11) 8), (.fld (.var 11) 9), (.fld (.var 11) 10)]⟩
 (.call 30 [(.int .i64 (1)), (.var 21)] 2
 (.letE ⟨(.bin .lss 3), [(.var 22), (.int .i64 (0))]⟩
 (.ite (.var 24)
 (.ret [(.bool false)])
 (.call 29 [(.var 13), (.var 8)] 1
 (.letE ⟨(.un .not), [(.var 25)]⟩
 (.ite (.var 26)
 (.ret [(.bool false)])
 (.call 31 [(.int .i64 (1)), (.var 13)] 2
 (.call 32 [(.var 28), (.int .i64 (1))] 1
 (.letE ⟨(.bin .lss 3), [(.var 29), (.int .i64 (0))]⟩
 (.ite (.var 30)
 (.ret [(.bool false)])
 (.letE ⟨(.bin .neq 3), [(.var 29), (.var 27)]⟩
 (.ite (.var 31)
 (.ret [(.bool false)])
 (.letE ⟨.mk, [(.fld (.var 2) 0), (.fld (.var 2) 1), (.fld (.var 2) 2), (.fld (.var 2) 3), (.fld (.var 2) 4), (.fld (.var 2) 5), (.fld (.var 2) 6), (.fld (.var 2) 7), (.fld (.var 2) 8), (.fld (.var 2) 9), (.fld (.var 2) 10)]⟩
 (.call 24 [(.var 32)] 1
 (.call 28 [(.var 33), (.var 1)] 1
 (.call 29 [(.var 34), (.var 8)] 1
 (.letE ⟨(.un .not), [(.var 35)]⟩
 (.ite (.var 36)
 (.ret [(.bool false)])
 (.call 32 [(.var 28), (.int .i64 (1))] 1
 (.letE ⟨(.bin .lss 3), [(.var 37), (.int .i64 (0))]⟩
 (.ite (.var 38)
 (.ret [(.bool false)])
 (.letE ⟨(.bin .neq 3), [(.var 37), (.var 27)]⟩
 (.ite (.var 39)
 (.ret [(.bool false)])
 (.ret [(.bool true)])))))))))))))))))))))))))))))))))))))))))))))))
def Sn : Nat → Option Sig := fun n => match n with
  | _ => none
def Bn : Fns := fun n ds => match n with
  | _ => none
theorem nat : ∀ f s, Sn f = some s → Con Try.prog Bn f s := by
  intro f s h
  unfold Sn at h
  split at h
  · cases h
def T : Nat → Option (Sig × IR) := fun n => match n with
  | 32 => some (sg32, ir32)
  | 31 => some (sg31, ir31)
  | 86 => some (sg86, ir86)
  | 98 => some (sg98, ir98)
  | 85 => some (sg85, ir85)
  | 30 => some (sg30, ir30)
  | 82 => some (sg82, ir82)
  | 96 => some (sg96, ir96)
  | 205 => some (sg205, ir205)
  | 187 => some (sg187, ir187)
  | 142 => some (sg142, ir142)
  | 81 => some (sg81, ir81)
  | 29 => some (sg29, ir29)
  | 84 => some (sg84, ir84)
  | 80 => some (sg80, ir80)
  | 123 => some (sg123, ir123)
  | 62 => some (sg62, ir62)
  | 181 => some (sg181, ir181)
  | 199 => some (sg199, ir199)
  | 180 => some (sg180, ir180)
  | 127 => some (sg127, ir127)
  | 128 => some (sg128, ir128)
  | 60 => some (sg60, ir60)
  | 59 => some (sg59, ir59)
  | 136 => some (sg136, ir136)
  | 135 => some (sg135, ir135)
  | 134 => some (sg134, ir134)
  | 70 => some (sg70, ir70)
  | 18 => some (sg18, ir18)
  | 58 => some (sg58, ir58)
  | 57 => some (sg57, ir57)
  | 56 => some (sg56, ir56)
  | 55 => some (sg55, ir55)
  | 13 => some (sg13, ir13)
  | 27 => some (sg27, ir27)
  | 78 => some (sg78, ir78)
  | 77 => some (sg77, ir77)
  | 91 => some (sg91, ir91)
  | 204 => some (sg204, ir204)
  | 186 => some (sg186, ir186)
  | 141 => some (sg141, ir141)
  | 76 => some (sg76, ir76)
  | 24 => some (sg24, ir24)
  | 75 => some (sg75, ir75)
  | 74 => some (sg74, ir74)
  | 87 => some (sg87, ir87)
  | 203 => some (sg203, ir203)
  | 185 => some (sg185, ir185)
  | 140 => some (sg140, ir140)
  | 73 => some (sg73, ir73)
  | 22 => some (sg22, ir22)
  | 26 => some (sg26, ir26)
  | 143 => some (sg143, ir143)
  | 83 => some (sg83, ir83)
  | 152 => some (sg152, ir152)
  | 129 => some (sg129, ir129)
  | 67 => some (sg67, ir67)
  | 122 => some (sg122, ir122)
  | 61 => some (sg61, ir61)
  | 15 => some (sg15, ir15)
  | 79 => some (sg79, ir79)
  | 28 => some (sg28, ir28)
  | 7 => some (sg7, ir7)
  | _ => none
noncomputable abbrev Lv (N k : Nat) : Fns := level Sn Bn T N k
def Cs : Nat → Option Sig := shapes Sn T
theorem t32 : fnIR Try.prog Cs hi32 Try.f32 sg32 = some ir32 := by kernel_rfl
theorem t31 : fnIR Try.prog Cs hi31 Try.f31 sg31 = some ir31 := by kernel_rfl
theorem t86 : fnIR Try.prog Cs hi86 Try.f86 sg86 = some ir86 := by kernel_rfl
theorem t98 : fnIR Try.prog Cs hi98 Try.f98 sg98 = some ir98 := by kernel_rfl
theorem t85 : fnIR Try.prog Cs hi85 Try.f85 sg85 = some ir85 := by kernel_rfl
theorem t30 : fnIR Try.prog Cs hi30 Try.f30 sg30 = some ir30 := by kernel_rfl
theorem t82 : fnIR Try.prog Cs hi82 Try.f82 sg82 = some ir82 := by kernel_rfl
theorem t96 : fnIR Try.prog Cs hi96 Try.f96 sg96 = some ir96 := by kernel_rfl
theorem t205 : fnIR Try.prog Cs hi205 Try.f205 sg205 = some ir205 := by kernel_rfl
theorem t187 : fnIR Try.prog Cs hi187 Try.f187 sg187 = some ir187 := by kernel_rfl
theorem t142 : fnIR Try.prog Cs hi142 Try.f142 sg142 = some ir142 := by kernel_rfl
theorem t81 : fnIR Try.prog Cs hi81 Try.f81 sg81 = some ir81 := by kernel_rfl
theorem t29 : fnIR Try.prog Cs hi29 Try.f29 sg29 = some ir29 := by kernel_rfl
theorem t84 : fnIR Try.prog Cs hi84 Try.f84 sg84 = some ir84 := by kernel_rfl
theorem t80 : fnIR Try.prog Cs hi80 Try.f80 sg80 = some ir80 := by kernel_rfl
theorem t123 : fnIR Try.prog Cs hi123 Try.f123 sg123 = some ir123 := by kernel_rfl
theorem t62 : fnIR Try.prog Cs hi62 Try.f62 sg62 = some ir62 := by kernel_rfl
theorem t181 : fnIR Try.prog Cs hi181 Try.f181 sg181 = some ir181 := by kernel_rfl
theorem t199 : fnIR Try.prog Cs hi199 Try.f199 sg199 = some ir199 := by kernel_rfl
theorem t180 : fnIR Try.prog Cs hi180 Try.f180 sg180 = some ir180 := by kernel_rfl
theorem t127 : fnIR Try.prog Cs hi127 Try.f127 sg127 = some ir127 := by kernel_rfl
theorem t128 : fnIR Try.prog Cs hi128 Try.f128 sg128 = some ir128 := by kernel_rfl
theorem t60 : fnIR Try.prog Cs hi60 Try.f60 sg60 = some ir60 := by kernel_rfl
theorem t59 : fnIR Try.prog Cs hi59 Try.f59 sg59 = some ir59 := by kernel_rfl
theorem t136 : fnIR Try.prog Cs hi136 Try.f136 sg136 = some ir136 := by kernel_rfl
theorem t135 : fnIR Try.prog Cs hi135 Try.f135 sg135 = some ir135 := by kernel_rfl
theorem t134 : fnIR Try.prog Cs hi134 Try.f134 sg134 = some ir134 := by kernel_rfl
theorem t70 : fnIR Try.prog Cs hi70 Try.f70 sg70 = some ir70 := by kernel_rfl
theorem t18 : fnIR Try.prog Cs hi18 Try.f18 sg18 = some ir18 := by kernel_rfl
theorem t58 : fnIR Try.prog Cs hi58 Try.f58 sg58 = some ir58 := by kernel_rfl
theorem t57 : fnIR Try.prog Cs hi57 Try.f57 sg57 = some ir57 := by kernel_rfl
theorem t56 : fnIR Try.prog Cs hi56 Try.f56 sg56 = some ir56 := by kernel_rfl
theorem t55 : fnIR Try.prog Cs hi55 Try.f55 sg55 = some ir55 := by kernel_rfl
theorem t13 : fnIR Try.prog Cs hi13 Try.f13 sg13 = some ir13 := by kernel_rfl
theorem t27 : fnIR Try.prog Cs hi27 Try.f27 sg27 = some ir27 := by kernel_rfl
theorem t78 : fnIR Try.prog Cs hi78 Try.f78 sg78 = some ir78 := by kernel_rfl
theorem t77 : fnIR Try.prog Cs hi77 Try.f77 sg77 = some ir77 := by kernel_rfl
theorem t91 : fnIR Try.prog Cs hi91 Try.f91 sg91 = some ir91 := by kernel_rfl
theorem t204 : fnIR Try.prog Cs hi204 Try.f204 sg204 = some ir204 := by kernel_rfl
theorem t186 : fnIR Try.prog Cs hi186 Try.f186 sg186 = some ir186 := by kernel_rfl
theorem t141 : fnIR Try.prog Cs hi141 Try.f141 sg141 = some ir141 := by kernel_rfl
theorem t76 : fnIR Try.prog Cs hi76 Try.f76 sg76 = some ir76 := by kernel_rfl
theorem t24 : fnIR Try.prog Cs hi24 Try.f24 sg24 = some ir24 := by kernel_rfl
theorem t75 : fnIR Try.prog Cs hi75 Try.f75 sg75 = some ir75 := by kernel_rfl
theorem t74 : fnIR Try.prog Cs hi74 Try.f74 sg74 = some ir74 := by kernel_rfl
theorem t87 : fnIR Try.prog Cs hi87 Try.f87 sg87 = some ir87 := by kernel_rfl
theorem t203 : fnIR Try.prog Cs hi203 Try.f203 sg203 = some ir203 := by kernel_rfl
theorem t185 : fnIR Try.prog Cs hi185 Try.f185 sg185 = some ir185 := by kernel_rfl
theorem t140 : fnIR Try.prog Cs hi140 Try.f140 sg140 = some ir140 := by kernel_rfl
theorem t73 : fnIR Try.prog Cs hi73 Try.f73 sg73 = some ir73 := by kernel_rfl
theorem t22 : fnIR Try.prog Cs hi22 Try.f22 sg22 = some ir22 := by kernel_rfl
theorem t26 : fnIR Try.prog Cs hi26 Try.f26 sg26 = some ir26 := by kernel_rfl
theorem t143 : fnIR Try.prog Cs hi143 Try.f143 sg143 = some ir143 := by kernel_rfl
theorem t83 : fnIR Try.prog Cs hi83 Try.f83 sg83 = some ir83 := by kernel_rfl
theorem t152 : fnIR Try.prog Cs hi152 Try.f152 sg152 = some ir152 := by kernel_rfl
theorem t129 : fnIR Try.prog Cs hi129 Try.f129 sg129 = some ir129 := by kernel_rfl
theorem t67 : fnIR Try.prog Cs hi67 Try.f67 sg67 = some ir67 := by kernel_rfl
theorem t122 : fnIR Try.prog Cs hi122 Try.f122 sg122 = some ir122 := by kernel_rfl
theorem t61 : fnIR Try.prog Cs hi61 Try.f61 sg61 = some ir61 := by kernel_rfl
theorem t15 : fnIR Try.prog Cs hi15 Try.f15 sg15 = some ir15 := by kernel_rfl
theorem t79 : fnIR Try.prog Cs hi79 Try.f79 sg79 = some ir79 := by kernel_rfl
theorem t28 : fnIR Try.prog Cs hi28 Try.f28 sg28 = some ir28 := by kernel_rfl
theorem t7 : fnIR Try.prog Cs hi7 Try.f7 sg7 = some ir7 := by kernel_rfl
theorem tab : ∀ f s ir, T f = some (s, ir) → ∃ fn H, Try.prog.funcs[f]? = some fn ∧ fnIR Try.prog (shapes Sn T) H fn s = some ir := by
  intro f s ir h
  unfold T at h
  split at h
  · simp only [Option.some.injEq, Prod.mk.injEq] at h
    obtain ⟨rfl, rfl⟩ := h
    exact ⟨Try.f32, hi32, Try.func32, t32⟩
  · simp only [Option.some.injEq, Prod.mk.injEq] at h
    obtain ⟨rfl, rfl⟩ := h
    exact ⟨Try.f31, hi31, Try.func31, t31⟩
  · simp only [Option.some.injEq, Prod.mk.injEq] at h
    obtain ⟨rfl, rfl⟩ := h
    exact ⟨Try.f86, hi86, Try.func86, t86⟩
  · simp only [Option.some.injEq, Prod.mk.injEq] at h
    obtain ⟨rfl, rfl⟩ := h
    exact ⟨Try.f98, hi98, Try.func98, t98⟩
  · simp only [Option.some.injEq, Prod.mk.injEq] at h
    obtain ⟨rfl, rfl⟩ := h
    exact ⟨Try.f85, hi85, Try.func85, t85⟩
  · simp only [Option.some.injEq, Prod.mk.injEq] at h
    obtain ⟨rfl, rfl⟩ := h
    exact ⟨Try.f30, hi30, Try.func30, t30⟩
  · simp only [Option.some.injEq, Prod.mk.injEq] at h
    obtain ⟨rfl, rfl⟩ := h
    exact ⟨Try.f82, hi82, Try.func82, t82⟩
  · simp only [Option.some.injEq, Prod.mk.injEq] at h
    obtain ⟨rfl, rfl⟩ := h
    exact ⟨Try.f96, hi96, Try.func96, t96⟩
  · simp only [Option.some.injEq, Prod.mk.injEq] at h
    obtain ⟨rfl, rfl⟩ := h
    exact ⟨Try.f205, hi205, Try.func205, t205⟩
  · simp only [Option.some.injEq, Prod.mk.injEq] at h
    obtain ⟨rfl, rfl⟩ := h
    exact ⟨Try.f187, hi187, Try.func187, t187⟩
  · simp only [Option.some.injEq, Prod.mk.injEq] at h
    obtain ⟨rfl, rfl⟩ := h
    exact ⟨Try.f142, hi142, Try.func142, t142⟩
  · simp only [Option.some.injEq, Prod.mk.injEq] at h
    obtain ⟨rfl, rfl⟩ := h
    exact ⟨Try.f81, hi81, Try.func81, t81⟩
  · simp only [Option.some.injEq, Prod.mk.injEq] at h
    obtain ⟨rfl, rfl⟩ := h
    exact ⟨Try.f29, hi29, Try.func29, t29⟩
  · simp only [Option.some.injEq, Prod.mk.injEq] at h
    obtain ⟨rfl, rfl⟩ := h
    exact ⟨Try.f84, hi84, Try.func84, t84⟩
  · simp only [Option.some.injEq, Prod.mk.injEq] at h
    obtain ⟨rfl, rfl⟩ := h
    exact ⟨Try.f80, hi80, Try.func80, t80⟩
  · simp only [Option.some.injEq, Prod.mk.injEq] at h
    obtain ⟨rfl, rfl⟩ := h
    exact ⟨Try.f123, hi123, Try.func123, t123⟩
  · simp only [Option.some.injEq, Prod.mk.injEq] at h
    obtain ⟨rfl, rfl⟩ := h
    exact ⟨Try.f62, hi62, Try.func62, t62⟩
  · simp only [Option.some.injEq, Prod.mk.injEq] at h
    obtain ⟨rfl, rfl⟩ := h
    exact ⟨Try.f181, hi181, Try.func181, t181⟩
  · simp only [Option.some.injEq, Prod.mk.injEq] at h
    obtain ⟨rfl, rfl⟩ := h
    exact ⟨Try.f199, hi199, Try.func199, t199⟩
  · simp only [Option.some.injEq, Prod.mk.injEq] at h
    obtain ⟨rfl, rfl⟩ := h
    exact ⟨Try.f180, hi180, Try.func180, t180⟩
  · simp only [Option.some.injEq, Prod.mk.injEq] at h
    obtain ⟨rfl, rfl⟩ := h
    exact ⟨Try.f127, hi127, Try.func127, t127⟩
  · simp only [Option.some.injEq, Prod.mk.injEq] at h
    obtain ⟨rfl, rfl⟩ := h
    exact ⟨Try.f128, hi128, Try.func128, t128⟩
  · simp only [Option.some.injEq, Prod.mk.injEq] at h
    obtain ⟨rfl, rfl⟩ := h
    exact ⟨Try.f60, hi60, Try.func60, t60⟩
  · simp only [Option.some.injEq, Prod.mk.injEq] at h
    obtain ⟨rfl, rfl⟩ := h
    exact ⟨Try.f59, hi59, Try.func59, t59⟩
  · simp only [Option.some.injEq, Prod.mk.injEq] at h
    obtain ⟨rfl, rfl⟩ := h
    exact ⟨Try.f136, hi136, Try.func136, t136⟩
  · simp only [Option.some.injEq, Prod.mk.injEq] at h
    obtain ⟨rfl, rfl⟩ := h
    exact ⟨Try.f135, hi135, Try.func135, t135⟩
  · simp only [Option.some.injEq, Prod.mk.injEq] at h
    obtain ⟨rfl, rfl⟩ := h
    exact ⟨Try.f134, hi134, Try.func134, t134⟩
  · simp only [Option.some.injEq, Prod.mk.injEq] at h
    obtain ⟨rfl, rfl⟩ := h
    exact ⟨Try.f70, hi70, Try.func70, t70⟩
  · simp only [Option.some.injEq, Prod.mk.injEq] at h
    obtain ⟨rfl, rfl⟩ := h
    exact ⟨Try.f18, hi18, Try.func18, t18⟩
  · simp only [Option.some.injEq, Prod.mk.injEq] at h
    obtain ⟨rfl, rfl⟩ := h
    exact ⟨Try.f58, hi58, Try.func58, t58⟩
  · simp only [Option.some.injEq, Prod.mk.injEq] at h
    obtain ⟨rfl, rfl⟩ := h
    exact ⟨Try.f57, hi57, Try.func57, t57⟩
  · simp only [Option.some.injEq, Prod.mk.injEq] at h
    obtain ⟨rfl, rfl⟩ := h
    exact ⟨Try.f56, hi56, Try.func56, t56⟩
  · simp only [Option.some.injEq, Prod.mk.injEq] at h
    obtain ⟨rfl, rfl⟩ := h
    exact ⟨Try.f55, hi55, Try.func55, t55⟩
  · simp only [Option.some.injEq, Prod.mk.injEq] at h
    obtain ⟨rfl, rfl⟩ := h
    exact ⟨Try.f13, hi13, Try.func13, t13⟩
  · simp only [Option.some.injEq, Prod.mk.injEq] at h
    obtain ⟨rfl, rfl⟩ := h
    exact ⟨Try.f27, hi27, Try.func27, t27⟩
  · simp only [Option.some.injEq, Prod.mk.injEq] at h
    obtain ⟨rfl, rfl⟩ := h
    exact ⟨Try.f78, hi78, Try.func78, t78⟩
  · simp only [Option.some.injEq, Prod.mk.injEq] at h
    obtain ⟨rfl, rfl⟩ := h
    exact ⟨Try.f77, hi77, Try.func77, t77⟩
  · simp only [Option.some.injEq, Prod.mk.injEq] at h
    obtain ⟨rfl, rfl⟩ := h
    exact ⟨Try.f91, hi91, Try.func91, t91⟩
  · simp only [Option.some.injEq, Prod.mk.injEq] at h
    obtain ⟨rfl, rfl⟩ := h
    exact ⟨Try.f204, hi204, Try.func204, t204⟩
  · simp only [Option.some.injEq, Prod.mk.injEq] at h
    obtain ⟨rfl, rfl⟩ := h
    exact ⟨Try.f186, hi186, Try.func186, t186⟩
  · simp only [Option.some.injEq, Prod.mk.injEq] at h
    obtain ⟨rfl, rfl⟩ := h
    exact ⟨Try.f141, hi141, Try.func141, t141⟩
  · simp only [Option.some.injEq, Prod.mk.injEq] at h
    obtain ⟨rfl, rfl⟩ := h
    exact ⟨Try.f76, hi76, Try.func76, t76⟩
  · simp only [Option.some.injEq, Prod.mk.injEq] at h
    obtain ⟨rfl, rfl⟩ := h
    exact ⟨Try.f24, hi24, Try.func24, t24⟩
  · simp only [Option.some.injEq, Prod.mk.injEq] at h
    obtain ⟨rfl, rfl⟩ := h
    exact ⟨Try.f75, hi75, Try.func75, t75⟩
  · simp only [Option.some.injEq, Prod.mk.injEq] at h
    obtain ⟨rfl, rfl⟩ := h
    exact ⟨Try.f74, hi74, Try.func74, t74⟩
  · simp only [Option.some.injEq, Prod.mk.injEq] at h
    obtain ⟨rfl, rfl⟩ := h
    exact ⟨Try.f87, hi87, Try.func87, t87⟩
  · simp only [Option.some.injEq, Prod.mk.injEq] at h
    obtain ⟨rfl, rfl⟩ := h
    exact ⟨Try.f203, hi203, Try.func203, t203⟩
  · simp only [Option.some.injEq, Prod.mk.injEq] at h
    obtain ⟨rfl, rfl⟩ := h
    exact ⟨Try.f185, hi185, Try.func185, t185⟩
  · simp only [Option.some.injEq, Prod.mk.injEq] at h
    obtain ⟨rfl, rfl⟩ := h
    exact ⟨Try.f140, hi140, Try.func140, t140⟩
  · simp only [Option.some.injEq, Prod.mk.injEq] at h
    obtain ⟨rfl, rfl⟩ := h
    exact ⟨Try.f73, hi73, Try.func73, t73⟩
  · simp only [Option.some.injEq, Prod.mk.injEq] at h
    obtain ⟨rfl, rfl⟩ := h
    exact ⟨Try.f22, hi22, Try.func22, t22⟩
  · simp only [Option.some.injEq, Prod.mk.injEq] at h
    obtain ⟨rfl, rfl⟩ := h
    exact ⟨Try.f26, hi26, Try.func26, t26⟩
  · simp only [Option.some.injEq, Prod.mk.injEq] at h
    obtain ⟨rfl, rfl⟩ := h
    exact ⟨Try.f143, hi143, Try.func143, t143⟩
  · simp only [Option.some.injEq, Prod.mk.injEq] at h
    obtain ⟨rfl, rfl⟩ := h
    exact ⟨Try.f83, hi83, Try.func83, t83⟩
  · simp only [Option.some.injEq, Prod.mk.injEq] at h
    obtain ⟨rfl, rfl⟩ := h
    exact ⟨Try.f152, hi152, Try.func152, t152⟩
  · simp only [Option.some.injEq, Prod.mk.injEq] at h
    obtain ⟨rfl, rfl⟩ := h
    exact ⟨Try.f129, hi129, Try.func129, t129⟩
  · simp only [Option.some.injEq, Prod.mk.injEq] at h
    obtain ⟨rfl, rfl⟩ := h
    exact ⟨Try.f67, hi67, Try.func67, t67⟩
  · simp only [Option.some.injEq, Prod.mk.injEq] at h
    obtain ⟨rfl, rfl⟩ := h
    exact ⟨Try.f122, hi122, Try.func122, t122⟩
  · simp only [Option.some.injEq, Prod.mk.injEq] at h
    obtain ⟨rfl, rfl⟩ := h
    exact ⟨Try.f61, hi61, Try.func61, t61⟩
  · simp only [Option.some.injEq, Prod.mk.injEq] at h
    obtain ⟨rfl, rfl⟩ := h
    exact ⟨Try.f15, hi15, Try.func15, t15⟩
  · simp only [Option.some.injEq, Prod.mk.injEq] at h
    obtain ⟨rfl, rfl⟩ := h
    exact ⟨Try.f79, hi79, Try.func79, t79⟩
  · simp only [Option.some.injEq, Prod.mk.injEq] at h
    obtain ⟨rfl, rfl⟩ := h
    exact ⟨Try.f28, hi28, Try.func28, t28⟩
  · simp only [Option.some.injEq, Prod.mk.injEq] at h
    obtain ⟨rfl, rfl⟩ := h
    exact ⟨Try.f7, hi7, Try.func7, t7⟩
  · cases h
theorem con (N k f : Nat) (s : Sig) (h : shapes Sn T f = some s) : Con Try.prog (Lv N k) f s := level_con (by kernel_rfl) nat tab k f s h
end Go.Proofs.Ytecleaangfcloaa.VtFnExactBehind
