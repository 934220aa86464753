/- The functions that FnProposes reaches, as texts of the language of values, and that these are what the code says. Definitions and lemmas, no statement. -/
import Derived.Test.YtecleaangfcloaaProg
import Derived.Test.YtecleaangfcloaaVmNat
import Derived.KernelRfl
import Derived.WalkKit
import Derived.Tactics
namespace Go.Proofs.Ytecleaangfcloaa.VtFnProposes
open Go.Vm Go.RowKit
set_option maxRecDepth 100000
set_option linter.unusedVariables false
set_option linter.unusedSimpArgs false
/- loop.example/g00365/laws.sameBytes -/
def sg52 : Sig := ⟨[.val, .val], [(.bool, .sh)], true, none, false⟩
def hi52 : Hints := []
def ir52 : IR := (.letE ⟨.text, [(.var 0)]⟩
 (.letE ⟨.text, [(.var 1)]⟩
 (.letE ⟨(.bin .eql 9), [(.var 2), (.var 3)]⟩
 (.ret [(.var 4)]))))
/- loop.example/g00365/laws.sameOp -/
def sg71 : Sig := ⟨[.val, .val], [(.bool, .sh)], true, none, false⟩
def hi71 : Hints := []
def ir71 : IR := (.letE ⟨(.all 4), [(.var 0)]⟩
 (.letE ⟨(.all 4), [(.var 1)]⟩
 (.letE ⟨(.bin .eql 3), [(.fld (.var 2) 0), (.fld (.var 3) 0)]⟩
 (.ite (.var 4)
 (.call 52 [(.fld (.var 2) 1), (.fld (.var 3) 1)] 1
 (.ite (.var 5)
 (.call 52 [(.fld (.var 2) 2), (.fld (.var 3) 2)] 1
 (.ite (.var 6)
 (.letE ⟨(.bin .eql 3), [(.fld (.var 2) 3), (.fld (.var 3) 3)]⟩
 (.ret [(.var 7)]))
 (.ret [(.bool false)])))
 (.ret [(.bool false)])))
 (.ret [(.bool false)])))))
/- loop.example/g00365/laws.sameCmd -/
def sg19 : Sig := ⟨[.val, .val], [(.bool, .sh)], true, none, false⟩
def hi19 : Hints := []
def ir19 : IR := (.letE ⟨(.all 6), [(.var 0)]⟩
 (.letE ⟨(.all 6), [(.var 1)]⟩
 (.letE ⟨(.bin .eql 3), [(.fld (.var 2) 0), (.fld (.var 3) 0)]⟩
 (.ite (.var 4)
 (.letE ⟨(.bin .eql 3), [(.fld (.var 2) 1), (.fld (.var 3) 1)]⟩
 (.ite (.var 5)
 (.letE ⟨.mk, [(.fld (.var 2) 2), (.fld (.var 2) 3), (.fld (.var 2) 4), (.fld (.var 2) 5)]⟩
 (.letE ⟨.mk, [(.fld (.var 3) 2), (.fld (.var 3) 3), (.fld (.var 3) 4), (.fld (.var 3) 5)]⟩
 (.call 71 [(.var 6), (.var 7)] 1
 (.ret [(.var 8)]))))
 (.ret [(.bool false)])))
 (.ret [(.bool false)])))))
/- loop.example/g00365/spec.l2key -/
def sg136 : Sig := ⟨[.val], [(.bool, .sh)], false, none, false⟩
def hi136 : Hints := [((0, 4), ⟨[(2, .sh), (3, .sh)], [], []⟩)]
def ir136 : IR := (.letE ⟨.len, [(.var 0)]⟩
 (.letE ⟨(.bin .lss 3), [(.var 1), (.int .i64 (1))]⟩
 (.ite (.var 2)
 (.ret [(.bool false)])
 (.letE ⟨.len, [(.var 0)]⟩
 (.letE ⟨(.bin .gtr 3), [(.var 3), (.int .i64 (20))]⟩
 (.ite (.var 4)
 (.ret [(.bool false)])
 (.label true
 (.letE ⟨.len, [(.var 0)]⟩
 (.letE ⟨(.bin .lss 3), [(.var 6), (.var 7)]⟩
 (.ite (.var 8)
 (.letE ⟨(.idx 1), [(.var 0), (.var 6)]⟩
 (.letE ⟨.a, [(.fld (.var 9) 0)]⟩
 (.letE ⟨(.bin .lss 5), [(.var 10), (.int .u8 (97))]⟩
 (.ite (.var 11)
 (.letE ⟨(.idx 1), [(.var 0), (.var 6)]⟩
 (.letE ⟨.a, [(.fld (.var 12) 0)]⟩
 (.letE ⟨(.bin .neq 5), [(.var 13), (.int .u8 (47))]⟩
 (.ite (.var 14)
 (.ret [(.bool false)])
 (.letE ⟨(.bin .add 3), [(.var 6), (.int .i64 (1))]⟩
 (.jump 0 [(.var 5), (.var 15)]))))))
 (.letE ⟨(.idx 1), [(.var 0), (.var 6)]⟩
 (.letE ⟨.a, [(.fld (.var 12) 0)]⟩
 (.letE ⟨(.bin .gtr 5), [(.var 13), (.int .u8 (122))]⟩
 (.ite (.var 14)
 (.letE ⟨(.idx 1), [(.var 0), (.var 6)]⟩
 (.letE ⟨.a, [(.fld (.var 15) 0)]⟩
 (.letE ⟨(.bin .neq 5), [(.var 16), (.int .u8 (47))]⟩
 (.ite (.var 17)
 (.ret [(.bool false)])
 (.letE ⟨(.bin .add 3), [(.var 6), (.int .i64 (1))]⟩
 (.jump 0 [(.var 5), (.var 18)]))))))
 (.letE ⟨(.bin .add 3), [(.var 6), (.int .i64 (1))]⟩
 (.jump 0 [(.var 5), (.var 15)]))))))))))
 (.ret [(.bool true)]))))
 (.jump 0 [(.bool false), (.int .i64 (0))]))))))))
/- loop.example/g00365/spec.l2index -/
def sg135 : Sig := ⟨[.val], [(.bool, .sh)], false, none, false⟩
def hi135 : Hints := []
def ir135 : IR := (.letE ⟨(.bin .geq 3), [(.var 0), (.int .i64 (0))]⟩
 (.ite (.var 1)
 (.letE ⟨(.bin .leq 3), [(.var 0), (.int .i64 (1000000))]⟩
 (.ret [(.var 2)]))
 (.ret [(.bool false)])))
/- loop.example/g00365/spec.l2val -/
def sg134 : Sig := ⟨[.val], [(.bool, .sh)], false, none, false⟩
def hi134 : Hints := []
def ir134 : IR := (.letE ⟨.len, [(.var 0)]⟩
 (.letE ⟨(.bin .leq 3), [(.var 1), (.int .i64 (20))]⟩
 (.ret [(.var 2)])))
/- loop.example/g00365/spec.OpOk -/
def sg70 : Sig := ⟨[.val], [(.bool, .sh)], false, none, false⟩
def hi70 : Hints := [((1, 13), ⟨[(88, .sh)], [], [89, 90, 91]⟩), ((1, 8), ⟨[(85, .sh)], [], [78, 79, 80, 81, 82, 83, 84]⟩), ((1, 7), ⟨[(4, .sh)], [], [65, 66, 67, 68, 69, 70, 71, 72, 73, 74, 75, 76, 77]⟩), ((1, 5), ⟨[(64, .sh)], [], [48, 49, 50, 51, 52, 53, 54, 55, 56, 57, 58, 59, 60, 61, 62, 63]⟩), ((1, 4), ⟨[(3, .sh)], [], [25, 26, 27, 28, 29, 30, 31, 32, 33, 34, 35, 36, 37, 38, 39, 40, 41, 42, 43, 44, 45, 46, 47]⟩), ((1, 2), ⟨[(24, .sh)], [], [5, 6, 7, 8, 9, 10, 11, 12, 13, 14, 15, 16, 17, 18, 19, 20, 21, 22, 23]⟩)]
def ir70 : IR := (.letE ⟨(.all 4), [(.var 0)]⟩
 (.label false
 (.ite (.var 2)
 (.ret [(.bool false)])
 (.label false
 (.label false
 (.ite (.var 4)
 (.ret [(.bool false)])
 (.label false
 (.label false
 (.ite (.var 6)
 (.ret [(.bool false)])
 (.label false
 (.ite (.var 7)
 (.letE ⟨(.bin .eql 3), [(.fld (.var 1) 3), (.int .i64 (0))]⟩
 (.ret [(.var 8)]))
 (.letE ⟨(.bin .eql 3), [(.fld (.var 1) 0), (.int .i64 (4))]⟩
 (.ite (.var 8)
 (.letE ⟨(.bin .leq 3), [(.fld (.var 1) 3), (.int .i64 (1))]⟩
 (.ret [(.var 9)]))
 (.letE ⟨(.bin .eql 3), [(.fld (.var 1) 0), (.int .i64 (2))]⟩
 (.ite (.var 9)
 (.ret [(.bool true)])
 (.letE ⟨(.bin .geq 3), [(.fld (.var 1) 3), (.int .i64 (1))]⟩
 (.ret [(.var 10)])))))))
 (.letE ⟨(.bin .eql 3), [(.fld (.var 1) 0), (.int .i64 (0))]⟩
 (.ite (.var 7)
 (.jump 5 [(.var 7)])
 (.letE ⟨(.bin .eql 3), [(.fld (.var 1) 0), (.int .i64 (1))]⟩
 (.ite (.var 8)
 (.jump 5 [(.var 8)])
 (.letE ⟨(.bin .eql 3), [(.fld (.var 1) 0), (.int .i64 (3))]⟩
 (.jump 5 [(.var 9)]))))))))
 (.letE ⟨(.un .not), [(.var 5)]⟩
 (.ite (.var 6)
 (.letE ⟨.len, [(.fld (.var 1) 2)]⟩
 (.letE ⟨(.bin .gtr 3), [(.var 7), (.int .i64 (0))]⟩
 (.jump 4 [(.var 8)])))
 (.jump 4 [(.bool false)]))))
 (.letE ⟨(.bin .eql 3), [(.fld (.var 1) 0), (.int .i64 (1))]⟩
 (.ite (.var 5)
 (.jump 3 [(.bool true)])
 (.letE ⟨(.bin .eql 3), [(.fld (.var 1) 0), (.int .i64 (2))]⟩
 (.ite (.var 6)
 (.jump 3 [(.bool true)])
 (.letE ⟨(.bin .eql 3), [(.fld (.var 1) 0), (.int .i64 (6))]⟩
 (.jump 3 [(.var 7)]))))))))
 (.ite (.var 3)
 (.call 136 [(.fld (.var 1) 1)] 1
 (.letE ⟨(.un .not), [(.var 4)]⟩
 (.ite (.var 5)
 (.jump 2 [(.bool true)])
 (.letE ⟨(.un .not), [(.var 3)]⟩
 (.ite (.var 6)
 (.letE ⟨.len, [(.fld (.var 1) 1)]⟩
 (.letE ⟨(.bin .gtr 3), [(.var 7), (.int .i64 (0))]⟩
 (.jump 2 [(.var 8)])))
 (.jump 2 [(.bool false)]))))))
 (.letE ⟨(.un .not), [(.var 3)]⟩
 (.ite (.var 4)
 (.letE ⟨.len, [(.fld (.var 1) 1)]⟩
 (.letE ⟨(.bin .gtr 3), [(.var 5), (.int .i64 (0))]⟩
 (.jump 2 [(.var 6)])))
 (.jump 2 [(.bool false)])))))
 (.letE ⟨(.bin .eql 3), [(.fld (.var 1) 0), (.int .i64 (1))]⟩
 (.ite (.var 3)
 (.jump 1 [(.bool true)])
 (.letE ⟨(.bin .eql 3), [(.fld (.var 1) 0), (.int .i64 (2))]⟩
 (.ite (.var 4)
 (.jump 1 [(.bool true)])
 (.letE ⟨(.bin .eql 3), [(.fld (.var 1) 0), (.int .i64 (3))]⟩
 (.ite (.var 5)
 (.jump 1 [(.bool true)])
 (.letE ⟨(.bin .eql 3), [(.fld (.var 1) 0), (.int .i64 (6))]⟩
 (.ite (.var 6)
 (.jump 1 [(.bool true)])
 (.letE ⟨(.bin .eql 3), [(.fld (.var 1) 0), (.int .i64 (7))]⟩
 (.jump 1 [(.var 7)]))))))))))))
 (.letE ⟨(.bin .lss 3), [(.fld (.var 1) 0), (.int .i64 (0))]⟩
 (.ite (.var 2)
 (.jump 0 [(.bool true)])
 (.letE ⟨(.bin .gtr 3), [(.fld (.var 1) 0), (.int .i64 (7))]⟩
 (.ite (.var 3)
 (.jump 0 [(.bool true)])
 (.call 134 [(.fld (.var 1) 2)] 1
 (.letE ⟨(.un .not), [(.var 4)]⟩
 (.ite (.var 5)
 (.jump 0 [(.bool true)])
 (.call 135 [(.fld (.var 1) 3)] 1
 (.letE ⟨(.un .not), [(.var 6)]⟩
 (.jump 0 [(.var 7)]))))))))))))
/- loop.example/g00365/spec.CmdOk -/
def sg18 : Sig := ⟨[.val], [(.bool, .sh)], false, none, false⟩
def hi18 : Hints := []
def ir18 : IR := (.letE ⟨(.all 6), [(.var 0)]⟩
 (.letE ⟨(.bin .eql 3), [(.fld (.var 1) 0), (.int .i64 (-1))]⟩
 (.ite (.var 2)
 (.letE ⟨(.bin .eql 3), [(.fld (.var 1) 1), (.int .i64 (0))]⟩
 (.ite (.var 3)
 (.letE ⟨(.bin .eql 3), [(.fld (.var 1) 2), (.int .i64 (0))]⟩
 (.ite (.var 4)
 (.letE ⟨.mk, [(.fld (.var 1) 2), (.fld (.var 1) 3), (.fld (.var 1) 4), (.fld (.var 1) 5)]⟩
 (.call 70 [(.var 5)] 1
 (.ret [(.var 6)])))
 (.ret [(.bool false)])))
 (.ret [(.bool false)])))
 (.letE ⟨(.bin .geq 3), [(.fld (.var 1) 0), (.int .i64 (0))]⟩
 (.ite (.var 3)
 (.letE ⟨(.bin .lss 3), [(.fld (.var 1) 0), (.int .i64 (4))]⟩
 (.ite (.var 4)
 (.letE ⟨(.bin .geq 3), [(.fld (.var 1) 1), (.int .i64 (1))]⟩
 (.ite (.var 5)
 (.letE ⟨(.bin .leq 3), [(.fld (.var 1) 1), (.int .i64 (1000000))]⟩
 (.ite (.var 6)
 (.letE ⟨.mk, [(.fld (.var 1) 2), (.fld (.var 1) 3), (.fld (.var 1) 4), (.fld (.var 1) 5)]⟩
 (.call 70 [(.var 7)] 1
 (.ret [(.var 8)])))
 (.ret [(.bool false)])))
 (.ret [(.bool false)])))
 (.ret [(.bool false)])))
 (.ret [(.bool false)]))))))
/- loop.example/g00365/spec.ItemOk -/
def sg58 : Sig := ⟨[.val], [(.bool, .sh)], false, none, false⟩
def hi58 : Hints := []
def ir58 : IR := (.letE ⟨(.all 7), [(.var 0)]⟩
 (.letE ⟨(.bin .geq 3), [(.fld (.var 1) 0), (.int .i64 (1))]⟩
 (.ite (.var 2)
 (.letE ⟨(.bin .leq 3), [(.fld (.var 1) 0), (.int .i64 (100000))]⟩
 (.ite (.var 3)
 (.letE ⟨.mk, [(.fld (.var 1) 1), (.fld (.var 1) 2), (.fld (.var 1) 3), (.fld (.var 1) 4), (.fld (.var 1) 5), (.fld (.var 1) 6)]⟩
 (.call 18 [(.var 4)] 1
 (.ret [(.var 5)])))
 (.ret [(.bool false)])))
 (.ret [(.bool false)]))))
/- loop.example/g00365/spec.l4who -/
def sg57 : Sig := ⟨[.val, .val], [(.bool, .sh)], false, none, false⟩
def hi57 : Hints := []
def ir57 : IR := (.letE ⟨(.bin .geq 3), [(.var 0), (.int .i64 (-1))]⟩
 (.ite (.var 2)
 (.letE ⟨(.bin .lss 3), [(.var 0), (.var 1)]⟩
 (.ret [(.var 3)]))
 (.ret [(.bool false)])))
/- loop.example/g00365/spec.l3term -/
def sg56 : Sig := ⟨[.val], [(.bool, .sh)], false, none, false⟩
def hi56 : Hints := []
def ir56 : IR := (.letE ⟨(.bin .geq 3), [(.var 0), (.int .i64 (0))]⟩
 (.ite (.var 1)
 (.letE ⟨(.bin .leq 3), [(.var 0), (.int .i64 (100000))]⟩
 (.ret [(.var 2)]))
 (.ret [(.bool false)])))
/- loop.example/g00365/spec.l4servers -/
def sg55 : Sig := ⟨[.val], [(.bool, .sh)], false, none, false⟩
def hi55 : Hints := []
def ir55 : IR := (.letE ⟨(.bin .geq 3), [(.var 0), (.int .i64 (1))]⟩
 (.ite (.var 1)
 (.letE ⟨(.bin .leq 3), [(.var 0), (.int .i64 (5))]⟩
 (.ret [(.var 2)]))
 (.ret [(.bool false)])))
/- loop.example/g00365/spec.NodeOk -/
def sg13 : Sig := ⟨[.val, .val], [(.bool, .sh)], false, none, false⟩
def hi13 : Hints := [((1, 18), ⟨[(236, .sh)], [], [227, 228, 229, 230, 231, 232, 233, 234, 235]⟩), ((1, 16), ⟨[(226, .sh)], [], [208, 209, 210, 211, 212, 213, 214, 215, 216, 217, 218, 219, 220, 221, 222, 223, 224, 225]⟩), ((1, 14), ⟨[(207, .sh)], [], [166, 167, 168, 169, 170, 171, 172, 173, 174, 175, 176, 177, 178, 179, 180, 181, 182, 183, 184, 185, 186, 187, 188, 189, 190, 191, 192, 193, 194, 195, 196, 197, 198, 199, 200, 201, 202, 203, 204, 205, 206]⟩), ((0, 11), ⟨[(4, .sh), (6, .sh)], [], []⟩), ((1, 9), ⟨[(160, .sh)], [], [146, 147, 148, 149, 150, 151, 152, 153, 154, 155, 156, 157, 158, 159]⟩), ((1, 7), ⟨[(145, .sh)], [], [108, 109, 110, 111, 112, 113, 114, 115, 116, 117, 118, 119, 120, 121, 122, 123, 124, 125, 126, 127, 128, 129, 130, 131, 132, 133, 134, 135, 136, 137, 138, 139, 140, 141, 142, 143, 144]⟩), ((0, 4), ⟨[(4, .sh), (5, .sh)], [], []⟩), ((1, 2), ⟨[(100, .sh)], [], [7, 8, 9, 10, 11, 12, 13, 14, 15, 16, 17, 18, 19, 20, 21, 22, 23, 24, 25, 26, 27, 28, 29, 30, 31, 32, 33, 34, 35, 36, 37, 38, 39, 40, 41, 42, 43, 44, 45, 46, 47, 48, 49, 50, 51, 52, 53, 54, 55, 56, 57, 58, 59, 60, 61, 62, 63, 64, 65, 66, 67, 68, 69, 70, 71, 72, 73, 74, 75, 76, 77, 78, 79, 80, 81, 82, 83, 84, 85, 86, 87, 88, 89, 90, 91, 92, 93, 94, 95, 96, 97, 98, 99]⟩)]
def ir13 : IR := (.letE ⟨(.all 11), [(.var 0)]⟩
 (.label false
 (.ite (.var 3)
 (.ret [(.bool false)])
 (.label true
 (.letE ⟨.len, [(.fld (.var 2) 3)]⟩
 (.letE ⟨(.bin .lss 3), [(.var 5), (.var 6)]⟩
 (.ite (.var 7)
 (.label false
 (.ite (.var 8)
 (.ret [(.bool false)])
 (.letE ⟨(.bin .add 3), [(.var 5), (.int .i64 (1))]⟩
 (.jump 1 [(.var 4), (.var 9)])))
 (.letE ⟨(.idx 7), [(.fld (.var 2) 3), (.var 5)]⟩
 (.letE ⟨(.cells 0 7), [(.var 8)]⟩
 (.call 58 [(.var 9)] 1
 (.letE ⟨(.un .not), [(.var 10)]⟩
 (.ite (.var 11)
 (.jump 2 [(.bool true)])
 (.letE ⟨(.idx 7), [(.fld (.var 2) 3), (.var 5)]⟩
 (.letE ⟨.a, [(.fld (.var 12) 0)]⟩
 (.letE ⟨(.bin .gtr 3), [(.var 13), (.fld (.var 2) 1)]⟩
 (.ite (.var 14)
 (.jump 2 [(.bool true)])
 (.letE ⟨(.bin .gtr 3), [(.var 5), (.int .i64 (0))]⟩
 (.ite (.var 15)
 (.letE ⟨(.bin .sub 3), [(.var 5), (.int .i64 (1))]⟩
 (.letE ⟨(.idx 7), [(.fld (.var 2) 3), (.var 16)]⟩
 (.letE ⟨.a, [(.fld (.var 17) 0)]⟩
 (.letE ⟨(.idx 7), [(.fld (.var 2) 3), (.var 5)]⟩
 (.letE ⟨.a, [(.fld (.var 19) 0)]⟩
 (.letE ⟨(.bin .gtr 3), [(.var 18), (.var 20)]⟩
 (.jump 2 [(.var 21)])))))))
 (.jump 2 [(.bool false)])))))))))))))
 (.label false
 (.ite (.var 8)
 (.ret [(.bool false)])
 (.label true
 (.letE ⟨(.bin .lss 3), [(.var 10), (.var 1)]⟩
 (.ite (.var 11)
 (.label false
 (.ite (.var 12)
 (.ret [(.bool false)])
 (.label false
 (.ite (.var 13)
 (.ret [(.bool false)])
 (.label false
 (.ite (.var 14)
 (.ret [(.bool false)])
 (.letE ⟨(.bin .add 3), [(.var 10), (.int .i64 (1))]⟩
 (.jump 3 [(.var 9), (.var 15)])))
 (.letE ⟨(.bin .eql 3), [(.fld (.var 2) 5), (.int .i64 (0))]⟩
 (.ite (.var 14)
 (.letE ⟨(.idx 1), [(.fld (.var 2) 8), (.var 10)]⟩
 (.letE ⟨.a, [(.fld (.var 15) 0)]⟩
 (.jump 6 [(.var 16)])))
 (.jump 6 [(.bool false)])))))
 (.letE ⟨(.bin .neq 3), [(.fld (.var 2) 5), (.int .i64 (2))]⟩
 (.ite (.var 13)
 (.letE ⟨(.idx 1), [(.fld (.var 2) 9), (.var 10)]⟩
 (.letE ⟨.a, [(.fld (.var 14) 0)]⟩
 (.letE ⟨(.bin .neq 3), [(.var 15), (.int .i64 (0))]⟩
 (.ite (.var 16)
 (.jump 5 [(.bool true)])
 (.letE ⟨(.idx 1), [(.fld (.var 2) 10), (.var 10)]⟩
 (.letE ⟨.a, [(.fld (.var 17) 0)]⟩
 (.letE ⟨(.bin .neq 3), [(.var 18), (.int .i64 (0))]⟩
 (.jump 5 [(.var 19)]))))))))
 (.jump 5 [(.bool false)])))))
 (.letE ⟨(.bin .eql 3), [(.fld (.var 2) 5), (.int .i64 (2))]⟩
 (.ite (.var 12)
 (.letE ⟨(.idx 1), [(.fld (.var 2) 9), (.var 10)]⟩
 (.letE ⟨.a, [(.fld (.var 13) 0)]⟩
 (.letE ⟨(.bin .lss 3), [(.var 14), (.int .i64 (1))]⟩
 (.ite (.var 15)
 (.jump 4 [(.bool true)])
 (.letE ⟨(.idx 1), [(.fld (.var 2) 9), (.var 10)]⟩
 (.letE ⟨.a, [(.fld (.var 16) 0)]⟩
 (.letE ⟨.len, [(.fld (.var 2) 3)]⟩
 (.letE ⟨(.bin .add 3), [(.var 18), (.int .i64 (1))]⟩
 (.letE ⟨(.bin .gtr 3), [(.var 17), (.var 19)]⟩
 (.ite (.var 20)
 (.jump 4 [(.bool true)])
 (.letE ⟨(.idx 1), [(.fld (.var 2) 10), (.var 10)]⟩
 (.letE ⟨.a, [(.fld (.var 21) 0)]⟩
 (.letE ⟨(.bin .lss 3), [(.var 22), (.int .i64 (0))]⟩
 (.ite (.var 23)
 (.jump 4 [(.bool true)])
 (.letE ⟨(.idx 1), [(.fld (.var 2) 10), (.var 10)]⟩
 (.letE ⟨.a, [(.fld (.var 24) 0)]⟩
 (.letE ⟨.len, [(.fld (.var 2) 3)]⟩
 (.letE ⟨(.bin .gtr 3), [(.var 25), (.var 26)]⟩
 (.jump 4 [(.var 27)])))))))))))))))))))
 (.jump 4 [(.bool false)]))))
 (.letE ⟨(.bin .neq 3), [(.fld (.var 2) 5), (.int .i64 (2))]⟩
 (.ite (.var 12)
 (.ret [(.bool true)])
 (.letE ⟨(.bin .eql 3), [(.fld (.var 2) 6), (.fld (.var 2) 0)]⟩
 (.ret [(.var 13)]))))))
 (.jump 3 [(.var 4), (.int .i64 (0))])))
 (.letE ⟨(.bin .neq 3), [(.fld (.var 2) 5), (.int .i64 (0))]⟩
 (.ite (.var 8)
 (.letE ⟨(.bin .lss 3), [(.fld (.var 2) 1), (.int .i64 (1))]⟩
 (.ite (.var 9)
 (.jump 2 [(.bool true)])
 (.letE ⟨(.bin .neq 3), [(.fld (.var 2) 2), (.fld (.var 2) 0)]⟩
 (.jump 2 [(.var 10)]))))
 (.jump 2 [(.bool false)])))))))
 (.jump 1 [(.bool false), (.int .i64 (0))])))
 (.call 55 [(.var 1)] 1
 (.letE ⟨(.un .not), [(.var 3)]⟩
 (.ite (.var 4)
 (.jump 0 [(.bool true)])
 (.letE ⟨(.bin .lss 3), [(.fld (.var 2) 0), (.int .i64 (0))]⟩
 (.ite (.var 5)
 (.jump 0 [(.bool true)])
 (.letE ⟨(.bin .geq 3), [(.fld (.var 2) 0), (.var 1)]⟩
 (.ite (.var 6)
 (.jump 0 [(.bool true)])
 (.call 56 [(.fld (.var 2) 1)] 1
 (.letE ⟨(.un .not), [(.var 7)]⟩
 (.ite (.var 8)
 (.jump 0 [(.bool true)])
 (.call 57 [(.fld (.var 2) 2), (.var 1)] 1
 (.letE ⟨(.un .not), [(.var 9)]⟩
 (.ite (.var 10)
 (.jump 0 [(.bool true)])
 (.letE ⟨.len, [(.fld (.var 2) 3)]⟩
 (.letE ⟨(.bin .gtr 3), [(.var 11), (.int .i64 (400))]⟩
 (.ite (.var 12)
 (.jump 0 [(.bool true)])
 (.letE ⟨(.bin .lss 3), [(.fld (.var 2) 4), (.int .i64 (0))]⟩
 (.ite (.var 13)
 (.jump 0 [(.bool true)])
 (.letE ⟨.len, [(.fld (.var 2) 3)]⟩
 (.letE ⟨(.bin .gtr 3), [(.fld (.var 2) 4), (.var 14)]⟩
 (.ite (.var 15)
 (.jump 0 [(.bool true)])
 (.letE ⟨(.bin .lss 3), [(.fld (.var 2) 5), (.int .i64 (0))]⟩
 (.ite (.var 16)
 (.jump 0 [(.bool true)])
 (.letE ⟨(.bin .gtr 3), [(.fld (.var 2) 5), (.int .i64 (2))]⟩
 (.ite (.var 17)
 (.jump 0 [(.bool true)])
 (.call 57 [(.fld (.var 2) 6), (.var 1)] 1
 (.letE ⟨(.un .not), [(.var 18)]⟩
 (.ite (.var 19)
 (.jump 0 [(.bool true)])
 (.letE ⟨(.bin .lss 3), [(.fld (.var 2) 7), (.int .i64 (0))]⟩
 (.ite (.var 20)
 (.jump 0 [(.bool true)])
 (.letE ⟨(.bin .gtr 3), [(.fld (.var 2) 7), (.int .i64 (20))]⟩
 (.ite (.var 21)
 (.jump 0 [(.bool true)])
 (.letE ⟨.len, [(.fld (.var 2) 8)]⟩
 (.letE ⟨(.bin .neq 3), [(.var 22), (.var 1)]⟩
 (.ite (.var 23)
 (.jump 0 [(.bool true)])
 (.letE ⟨.len, [(.fld (.var 2) 9)]⟩
 (.letE ⟨(.bin .neq 3), [(.var 24), (.var 1)]⟩
 (.ite (.var 25)
 (.jump 0 [(.bool true)])
 (.letE ⟨.len, [(.fld (.var 2) 10)]⟩
 (.letE ⟨(.bin .neq 3), [(.var 26), (.var 1)]⟩
 (.jump 0 [(.var 27)])))))))))))))))))))))))))))))))))))))))))))
/- (loop.example/g00365/impl.Node).others -/
def sg80 : Sig := ⟨[.val], [((.sl (.int .i64)), (.own .sh))], true, none, false⟩
def hi80 : Hints := [((0, 3), ⟨[(3, (.own .sh)), (8, .sh), (2, (.own .sh))], [], []⟩)]
def ir80 : IR := (.letE ⟨(.all 11), [(.var 0)]⟩
 (.letE ⟨.len, [(.fld (.var 1) 8)]⟩
 (.label true
 (.letE ⟨(.bin .lss 3), [(.var 4), (.var 2)]⟩
 (.ite (.var 6)
 (.letE ⟨(.bin .neq 3), [(.var 4), (.fld (.var 1) 0)]⟩
 (.ite (.var 7)
 (.letE ⟨(.lst (.int .i64)), [(.var 4)]⟩
 (.letE ⟨(.app (.int .i64)), [(.var 3), (.var 8)]⟩
 (.letE ⟨(.bin .add 3), [(.var 4), (.int .i64 (1))]⟩
 (.jump 0 [(.var 9), (.var 10), (.var 5)]))))
 (.letE ⟨(.bin .add 3), [(.var 4), (.int .i64 (1))]⟩
 (.jump 0 [(.var 3), (.var 8), (.var 5)]))))
 (.ret [(.var 3)])))
 (.jump 0 [(.nil (.int .i64)), (.int .i64 (0)), (.nil (.int .i64))]))))
/- (loop.example/g00365/impl.Node).most -/
def sg183 : Sig := ⟨[.val, .val], [(.bool, .sh)], true, none, false⟩
def hi183 : Hints := []
def ir183 : IR := (.letE ⟨(.all 11), [(.var 0)]⟩
 (.letE ⟨(.bin .mul 3), [(.int .i64 (2)), (.var 1)]⟩
 (.letE ⟨.len, [(.fld (.var 2) 8)]⟩
 (.letE ⟨(.bin .gtr 3), [(.var 3), (.var 4)]⟩
 (.ret [(.var 5)])))))
/- slices.Clone[[]int,int] -/
def sg131 : Sig := ⟨[.val], [((.sl (.int .i64)), (.own .sh))], true, none, false⟩
def hi131 : Hints := []
def ir131 : IR := (.letE ⟨.len, [(.var 0)]⟩
 (.amb false (.var 0)
 (.ret [(.nil (.int .i64))])
 (.letE ⟨(.lst (.int .i64)), []⟩
 (.letE ⟨(.app (.int .i64)), [(.var 2), (.var 0)]⟩
 (.ret [(.var 3)])))))
/- slices.Clone[[]bool,bool] -/
def sg130 : Sig := ⟨[.val], [((.sl .bool), (.own .sh))], true, none, false⟩
def hi130 : Hints := []
def ir130 : IR := (.letE ⟨.len, [(.var 0)]⟩
 (.amb false (.var 0)
 (.ret [(.nil .bool)])
 (.letE ⟨(.lst .bool), []⟩
 (.letE ⟨(.app .bool), [(.var 2), (.var 0)]⟩
 (.ret [(.var 3)])))))
/- slices.Clone[[]byte,byte] -/
def sg161 : Sig := ⟨[.val], [((.sl (.int .u8)), (.own .sh))], true, none, false⟩
def hi161 : Hints := []
def ir161 : IR := (.letE ⟨.len, [(.var 0)]⟩
 (.amb false (.var 0)
 (.ret [(.nil (.int .u8))])
 (.letE ⟨(.lst (.int .u8)), []⟩
 (.letE ⟨(.app (.int .u8)), [(.var 2), (.var 0)]⟩
 (.ret [(.var 3)])))))
/- (loop.example/g00365/impl.Op).own -/
def sg175 : Sig := ⟨[.val], [((.pair (.int .i64) (.pair (.sl (.int .u8)) (.pair (.sl (.int .u8)) (.pair (.int .i64) .unit)))), (.pair .sh (.pair (.own .sh) (.pair (.own .sh) .sh))))], true, none, false⟩
def hi175 : Hints := []
def ir175 : IR := (.letE ⟨(.all 4), [(.var 0)]⟩
 (.call 161 [(.fld (.var 1) 1)] 1
 (.call 161 [(.fld (.var 1) 2)] 1
 (.letE ⟨.atom, [(.var 2)]⟩
 (.letE ⟨.atom, [(.var 3)]⟩
 (.letE ⟨.mk, [(.fld (.var 1) 0), (.var 4), (.var 5), (.fld (.var 1) 3)]⟩
 (.letE ⟨(.all 4), [(.var 6)]⟩
 (.letE ⟨.mk, [(.fld (.var 7) 0), (.fld (.var 7) 1), (.fld (.var 7) 2), (.fld (.var 7) 3)]⟩
 (.ret [(.var 8)])))))))))
/- (loop.example/g00365/impl.Cmd).own -/
def sg121 : Sig := ⟨[.val], [((.pair (.int .i64) (.pair (.int .i64) (.pair (.int .i64) (.pair (.sl (.int .u8)) (.pair (.sl (.int .u8)) (.pair (.int .i64) .unit)))))), (.pair .sh (.pair .sh (.pair .sh (.pair (.own .sh) (.pair (.own .sh) .sh))))))], true, none, false⟩
def hi121 : Hints := []
def ir121 : IR := (.letE ⟨(.all 6), [(.var 0)]⟩
 (.letE ⟨.mk, [(.fld (.var 1) 2), (.fld (.var 1) 3), (.fld (.var 1) 4), (.fld (.var 1) 5)]⟩
 (.call 175 [(.var 2)] 1
 (.letE ⟨(.all 4), [(.var 3)]⟩
 (.letE ⟨.mk, [(.fld (.var 1) 0), (.fld (.var 1) 1), (.fld (.var 4) 0), (.fld (.var 4) 1), (.fld (.var 4) 2), (.fld (.var 4) 3)]⟩
 (.letE ⟨(.all 6), [(.var 5)]⟩
 (.letE ⟨.mk, [(.fld (.var 6) 0), (.fld (.var 6) 1), (.fld (.var 6) 2), (.fld (.var 6) 3), (.fld (.var 6) 4), (.fld (.var 6) 5)]⟩
 (.ret [(.var 7)]))))))))
/- loop.example/g00365/impl.ownItems -/
def sg54 : Sig := ⟨[.val], [((.sl (.pair (.int .i64) (.pair (.int .i64) (.pair (.int .i64) (.pair (.int .i64) (.pair (.sl (.int .u8)) (.pair (.sl (.int .u8)) (.pair (.int .i64) .unit)))))))), (.own (.pair .sh (.pair .sh (.pair .sh (.pair .sh (.pair (.own .sh) (.pair (.own .sh) .sh))))))))], true, none, false⟩
def hi54 : Hints := [((0, 3), ⟨[(3, (.own (.pair .sh (.pair .sh (.pair .sh (.pair .sh (.pair (.own .sh) (.pair (.own .sh) .sh)))))))), (8, .sh), (2, (.own (.pair .sh (.pair .sh (.pair .sh (.pair .sh (.pair (.own .sh) (.pair (.own .sh) .sh))))))))], [], []⟩)]
def ir54 : IR := (.letE ⟨.len, [(.var 0)]⟩
 (.label true
 (.letE ⟨(.bin .lss 3), [(.var 3), (.var 1)]⟩
 (.ite (.var 5)
 (.letE ⟨(.idx 7), [(.var 0), (.var 3)]⟩
 (.letE ⟨(.cells 0 7), [(.var 6)]⟩
 (.letE ⟨(.all 7), [(.var 7)]⟩
 (.letE ⟨.mk, [(.fld (.var 8) 1), (.fld (.var 8) 2), (.fld (.var 8) 3), (.fld (.var 8) 4), (.fld (.var 8) 5), (.fld (.var 8) 6)]⟩
 (.call 121 [(.var 9)] 1
 (.letE ⟨.atom, [(.fld (.var 8) 0)]⟩
 (.letE ⟨(.all 6), [(.var 10)]⟩
 (.letE ⟨.mk, [(.var 11), (.fld (.var 12) 0), (.fld (.var 12) 1), (.fld (.var 12) 2), (.fld (.var 12) 3), (.fld (.var 12) 4), (.fld (.var 12) 5)]⟩
 (.letE ⟨(.lst (.pair (.int .i64) (.pair (.int .i64) (.pair (.int .i64) (.pair (.int .i64) (.pair (.sl (.int .u8)) (.pair (.sl (.int .u8)) (.pair (.int .i64) .unit)))))))), [(.var 13)]⟩
 (.letE ⟨(.app (.pair (.int .i64) (.pair (.int .i64) (.pair (.int .i64) (.pair (.int .i64) (.pair (.sl (.int .u8)) (.pair (.sl (.int .u8)) (.pair (.int .i64) .unit)))))))), [(.var 2), (.var 14)]⟩
 (.letE ⟨(.bin .add 3), [(.var 3), (.int .i64 (1))]⟩
 (.jump 0 [(.var 15), (.var 16), (.var 4)]))))))))))))
 (.ret [(.var 2)])))
 (.jump 0 [(.nil (.pair (.int .i64) (.pair (.int .i64) (.pair (.int .i64) (.pair (.int .i64) (.pair (.sl (.int .u8)) (.pair (.sl (.int .u8)) (.pair (.int .i64) .unit)))))))), (.int .i64 (0)), (.nil (.pair (.int .i64) (.pair (.int .i64) (.pair (.int .i64) (.pair (.int .i64) (.pair (.sl (.int .u8)) (.pair (.sl (.int .u8)) (.pair (.int .i64) .unit))))))))])))
/- (loop.example/g00365/impl.Node).own -/
def sg68 : Sig := ⟨[.val], [((.pair (.int .i64) (.pair (.int .i64) (.pair (.int .i64) (.pair (.sl (.pair (.int .i64) (.pair (.int .i64) (.pair (.int .i64) (.pair (.int .i64) (.pair (.sl (.int .u8)) (.pair (.sl (.int .u8)) (.pair (.int .i64) .unit)))))))) (.pair (.int .i64) (.pair (.int .i64) (.pair (.int .i64) (.pair (.int .i64) (.pair (.sl .bool) (.pair (.sl (.int .i64)) (.pair (.sl (.int .i64)) .unit))))))))))), (.pair .sh (.pair .sh (.pair .sh (.pair (.own (.pair .sh (.pair .sh (.pair .sh (.pair .sh (.pair (.own .sh) (.pair (.own .sh) .sh))))))) (.pair .sh (.pair .sh (.pair .sh (.pair .sh (.pair (.own .sh) (.pair (.own .sh) (.pair (.own .sh) .sh))))))))))))], true, none, false⟩
def hi68 : Hints := []
def ir68 : IR := (.letE ⟨(.all 11), [(.var 0)]⟩
 (.call 54 [(.fld (.var 1) 3)] 1
 (.call 130 [(.fld (.var 1) 8)] 1
 (.call 131 [(.fld (.var 1) 9)] 1
 (.call 131 [(.fld (.var 1) 10)] 1
 (.letE ⟨.atom, [(.var 2)]⟩
 (.letE ⟨.atom, [(.var 3)]⟩
 (.letE ⟨.atom, [(.var 4)]⟩
 (.letE ⟨.atom, [(.var 5)]⟩
 (.letE ⟨.mk, [(.fld (.var 1) 0), (.fld (.var 1) 1), (.fld (.var 1) 2), (.var 6), (.fld (.var 1) 4), (.fld (.var 1) 5), (.fld (.var 1) 6), (.fld (.var 1) 7), (.var 7), (.var 8), (.var 9)]⟩
 (.letE ⟨(.all 11), [(.var 10)]⟩
 (.letE ⟨.mk, [(.fld (.var 11) 0), (.fld (.var 11) 1), (.fld (.var 11) 2), (.fld (.var 11) 3), (.fld (.var 11) 4), (.fld (.var 11) 5), (.fld (.var 11) 6), (.fld (.var 11) 7), (.fld (.var 11) 8), (.fld (.var 11) 9), (.fld (.var 11) 10)]⟩
 (.ret [(.var 12)])))))))))))))
/- slices.Index[[]bool,bool] -/
def sg123 : Sig := ⟨[.val, .val], [((.int .i64), .sh)], true, none, false⟩
def hi123 : Hints := [((0, 2), ⟨[(4, .sh), (8, .sh)], [], []⟩)]
def ir123 : IR := (.letE ⟨.len, [(.var 0)]⟩
 (.label true
 (.letE ⟨(.bin .lss 3), [(.var 4), (.var 2)]⟩
 (.ite (.var 5)
 (.letE ⟨(.idx 1), [(.var 0), (.var 4)]⟩
 (.letE ⟨.a, [(.fld (.var 6) 0)]⟩
 (.letE ⟨(.beq false), [(.var 1), (.var 7)]⟩
 (.ite (.var 8)
 (.ret [(.var 4)])
 (.letE ⟨(.bin .add 3), [(.var 4), (.int .i64 (1))]⟩
 (.jump 0 [(.var 3), (.var 9)]))))))
 (.ret [(.int .i64 (-1))])))
 (.jump 0 [(.int .i64 (0)), (.int .i64 (0))])))
/- slices.Contains[[]bool,bool] -/
def sg62 : Sig := ⟨[.val, .val], [(.bool, .sh)], true, none, false⟩
def hi62 : Hints := []
def ir62 : IR := (.call 123 [(.var 0), (.var 1)] 1
 (.letE ⟨(.bin .geq 3), [(.var 2), (.int .i64 (0))]⟩
 (.ret [(.var 3)])))
/- loop.example/g00365/impl.isValue -/
def sg181 : Sig := ⟨[.val], [(.bool, .sh)], true, none, false⟩
def hi181 : Hints := []
def ir181 : IR := (.letE ⟨.len, [(.var 0)]⟩
 (.letE ⟨(.bin .leq 3), [(.var 1), (.int .i64 (20))]⟩
 (.ret [(.var 2)])))
/- bytes.Equal -/
def sg199 : Sig := ⟨[.val, .val], [(.bool, .sh)], true, none, false⟩
def hi199 : Hints := []
def ir199 : IR := (.letE ⟨.text, [(.var 0)]⟩
 (.letE ⟨.text, [(.var 1)]⟩
 (.letE ⟨(.bin .eql 9), [(.var 2), (.var 3)]⟩
 (.ret [(.var 4)]))))
/- (loop.example/g00365/impl.Op).same -/
def sg180 : Sig := ⟨[.val, .val], [(.bool, .sh)], true, none, false⟩
def hi180 : Hints := []
def ir180 : IR := (.letE ⟨(.all 4), [(.var 0)]⟩
 (.letE ⟨(.all 4), [(.var 1)]⟩
 (.letE ⟨(.bin .eql 3), [(.fld (.var 2) 0), (.fld (.var 3) 0)]⟩
 (.ite (.var 4)
 (.call 199 [(.fld (.var 2) 1), (.fld (.var 3) 1)] 1
 (.ite (.var 5)
 (.call 199 [(.fld (.var 2) 2), (.fld (.var 3) 2)] 1
 (.ite (.var 6)
 (.letE ⟨(.bin .eql 3), [(.fld (.var 2) 3), (.fld (.var 3) 3)]⟩
 (.ret [(.var 7)]))
 (.ret [(.bool false)])))
 (.ret [(.bool false)])))
 (.ret [(.bool false)])))))
/- (loop.example/g00365/impl.Cmd).same -/
def sg127 : Sig := ⟨[.val, .val], [(.bool, .sh)], true, none, false⟩
def hi127 : Hints := []
def ir127 : IR := (.letE ⟨(.all 6), [(.var 0)]⟩
 (.letE ⟨(.all 6), [(.var 1)]⟩
 (.letE ⟨(.bin .eql 3), [(.fld (.var 2) 0), (.fld (.var 3) 0)]⟩
 (.ite (.var 4)
 (.letE ⟨(.bin .eql 3), [(.fld (.var 2) 1), (.fld (.var 3) 1)]⟩
 (.ite (.var 5)
 (.letE ⟨.mk, [(.fld (.var 2) 2), (.fld (.var 2) 3), (.fld (.var 2) 4), (.fld (.var 2) 5)]⟩
 (.letE ⟨.mk, [(.fld (.var 3) 2), (.fld (.var 3) 3), (.fld (.var 3) 4), (.fld (.var 3) 5)]⟩
 (.call 180 [(.var 6), (.var 7)] 1
 (.ret [(.var 8)]))))
 (.ret [(.bool false)])))
 (.ret [(.bool false)])))))
/- loop.example/g00365/impl.noOp -/
def sg128 : Sig := ⟨[], [((.pair (.int .i64) (.pair (.int .i64) (.pair (.int .i64) (.pair (.sl (.int .u8)) (.pair (.sl (.int .u8)) (.pair (.int .i64) .unit)))))), (.pair .sh (.pair .sh (.pair .sh (.pair (.own .sh) (.pair (.own .sh) .sh))))))], true, none, false⟩
def hi128 : Hints := []
def ir128 : IR := (.letE ⟨.atom, [(.int .i64 (-1))]⟩
 (.letE ⟨.mk, [(.var 0), (.int .i64 (0)), (.int .i64 (0)), (.nil (.int .u8)), (.nil (.int .u8)), (.int .i64 (0))]⟩
 (.letE ⟨(.all 6), [(.var 1)]⟩
 (.letE ⟨.mk, [(.fld (.var 2) 0), (.fld (.var 2) 1), (.fld (.var 2) 2), (.fld (.var 2) 3), (.fld (.var 2) 4), (.fld (.var 2) 5)]⟩
 (.ret [(.var 3)])))))
/- loop.example/g00365/impl.within -/
def sg60 : Sig := ⟨[.val, .val, .val], [(.bool, .sh)], true, none, false⟩
def hi60 : Hints := []
def ir60 : IR := (.letE ⟨(.bin .leq 3), [(.var 1), (.var 0)]⟩
 (.ite (.var 3)
 (.letE ⟨(.bin .leq 3), [(.var 0), (.var 2)]⟩
 (.ret [(.var 4)]))
 (.ret [(.bool false)])))
/- loop.example/g00365/impl.isServer -/
def sg59 : Sig := ⟨[.val, .val], [(.bool, .sh)], true, none, false⟩
def hi59 : Hints := []
def ir59 : IR := (.call 60 [(.var 1), (.int .i64 (1)), (.int .i64 (5))] 1
 (.ite (.var 2)
 (.letE ⟨(.bin .sub 3), [(.var 1), (.int .i64 (1))]⟩
 (.call 60 [(.var 0), (.int .i64 (0)), (.var 3)] 1
 (.ret [(.var 4)])))
 (.ret [(.bool false)])))
/- loop.example/g00365/spec.l4termAt -/
def sg178 : Sig := ⟨[.val], [((.int .i64), .sh)], false, some (0, .box (.pair (.int .i64) (.pair (.int .i64) (.pair (.int .i64) (.pair (.sl (.pair (.int .i64) (.pair (.int .i64) (.pair (.int .i64) (.pair (.int .i64) (.pair (.sl (.int .u8)) (.pair (.sl (.int .u8)) (.pair (.int .i64) .unit)))))))) (.pair (.int .i64) (.pair (.int .i64) (.pair (.int .i64) (.pair (.int .i64) (.pair (.sl .bool) (.pair (.sl (.int .i64)) (.pair (.sl (.int .i64)) .unit))))))))))) (.pair .sh (.pair .sh (.pair .sh (.pair (.own .sh) (.pair .sh (.pair .sh (.pair .sh (.pair .sh (.pair (.own .sh) (.pair (.own .sh) (.pair (.own .sh) .sh))))))))))) (.pair .sh (.pair .sh (.pair .sh (.pair (.own .sh) (.pair .sh (.pair .sh (.pair .sh (.pair .sh (.pair (.own .sh) (.pair (.own .sh) (.pair (.own .sh) .sh)))))))))))), false⟩
def hi178 : Hints := []
def ir178 : IR := (.letE ⟨(.bin .lss 3), [(.var 0), (.int .i64 (1))]⟩
 (.ite (.var 2)
 (.letE ⟨.mk, [(.fld (.var 1) 0), (.fld (.var 1) 1), (.fld (.var 1) 2), (.fld (.var 1) 3), (.fld (.var 1) 4), (.fld (.var 1) 5), (.fld (.var 1) 6), (.fld (.var 1) 7), (.fld (.var 1) 8), (.fld (.var 1) 9), (.fld (.var 1) 10)]⟩
 (.ret [(.int .i64 (0)), (.var 3)]))
 (.letE ⟨.len, [(.fld (.var 1) 3)]⟩
 (.letE ⟨(.bin .gtr 3), [(.var 0), (.var 3)]⟩
 (.ite (.var 4)
 (.letE ⟨.mk, [(.fld (.var 1) 0), (.fld (.var 1) 1), (.fld (.var 1) 2), (.fld (.var 1) 3), (.fld (.var 1) 4), (.fld (.var 1) 5), (.fld (.var 1) 6), (.fld (.var 1) 7), (.fld (.var 1) 8), (.fld (.var 1) 9), (.fld (.var 1) 10)]⟩
 (.ret [(.int .i64 (0)), (.var 5)]))
 (.letE ⟨.len, [(.fld (.var 1) 3)]⟩
 (.letE ⟨(.bin .sub 3), [(.var 0), (.int .i64 (1))]⟩
 (.letE ⟨(.idx 7), [(.fld (.var 1) 3), (.var 6)]⟩
 (.letE ⟨(.idx 7), [(.fld (.var 1) 3), (.var 6)]⟩
 (.letE ⟨.a, [(.fld (.var 8) 0)]⟩
 (.letE ⟨.mk, [(.fld (.var 1) 0), (.fld (.var 1) 1), (.fld (.var 1) 2), (.fld (.var 1) 3), (.fld (.var 1) 4), (.fld (.var 1) 5), (.fld (.var 1) 6), (.fld (.var 1) 7), (.fld (.var 1) 8), (.fld (.var 1) 9), (.fld (.var 1) 10)]⟩
 (.ret [(.var 9), (.var 10)]))))))))))))
/- loop.example/g00365/spec.l4new -/
def sg176 : Sig := ⟨[.val, .val], [((.pair (.int .i64) (.pair (.int .i64) (.pair (.int .i64) (.pair (.sl (.pair (.int .i64) (.pair (.int .i64) (.pair (.int .i64) (.pair (.int .i64) (.pair (.sl (.int .u8)) (.pair (.sl (.int .u8)) (.pair (.int .i64) .unit)))))))) (.pair (.int .i64) (.pair (.int .i64) (.pair (.int .i64) (.pair (.int .i64) (.pair (.sl .bool) (.pair (.sl (.int .i64)) (.pair (.sl (.int .i64)) .unit))))))))))), (.pair .sh (.pair .sh (.pair .sh (.pair (.own (.pair .sh (.pair .sh (.pair .sh (.pair .sh (.pair (.own .sh) (.pair (.own .sh) .sh))))))) (.pair .sh (.pair .sh (.pair .sh (.pair .sh (.pair (.own .sh) (.pair (.own .sh) (.pair (.own .sh) .sh))))))))))))], false, none, false⟩
def hi176 : Hints := []
def ir176 : IR := (.letE ⟨(.rep .bool), [(.var 1), (.bool false)]⟩
 (.letE ⟨(.rep (.int .i64)), [(.var 1), (.int .i64 (0))]⟩
 (.letE ⟨(.rep (.int .i64)), [(.var 1), (.int .i64 (0))]⟩
 (.letE ⟨.atom, [(.var 0)]⟩
 (.letE ⟨.atom, [(.int .i64 (-1))]⟩
 (.letE ⟨.atom, [(.int .i64 (-1))]⟩
 (.letE ⟨.atom, [(.var 2)]⟩
 (.letE ⟨.atom, [(.var 3)]⟩
 (.letE ⟨.atom, [(.var 4)]⟩
 (.letE ⟨.mk, [(.var 5), (.int .i64 (0)), (.var 6), (.nil (.pair (.int .i64) (.pair (.int .i64) (.pair (.int .i64) (.pair (.int .i64) (.pair (.sl (.int .u8)) (.pair (.sl (.int .u8)) (.pair (.int .i64) .unit)))))))), (.int .i64 (0)), (.int .i64 (0)), (.var 7), (.int .i64 (0)), (.var 8), (.var 9), (.var 10)]⟩
 (.letE ⟨(.all 11), [(.var 11)]⟩
 (.letE ⟨.mk, [(.fld (.var 12) 0), (.fld (.var 12) 1), (.fld (.var 12) 2), (.fld (.var 12) 3), (.fld (.var 12) 4), (.fld (.var 12) 5), (.fld (.var 12) 6), (.fld (.var 12) 7), (.fld (.var 12) 8), (.fld (.var 12) 9), (.fld (.var 12) 10)]⟩
 (.ret [(.var 13)])))))))))))))
/- loop.example/g00365/spec.l1Byte -/
def sg167 : Sig := ⟨[], [((.int .i64), .sh)], false, some (0, .box (.pair (.sl (.int .u8)) (.pair (.int .i64) (.pair (.int .i64) .unit))) .sh .sh), false⟩
def hi167 : Hints := []
def ir167 : IR := (.letE ⟨(.bin .mul 3), [(.fld (.var 0) 2), (.int .i64 (6364136223846793005))]⟩
 (.letE ⟨(.bin .add 3), [(.var 1), (.int .i64 (1442695040888963407))]⟩
 (.letE ⟨.atom, [(.var 2)]⟩
 (.letE ⟨(.bin .shr 3), [(.var 3), (.int .u64 (33))]⟩
 (.letE ⟨(.bin .shr 3), [(.var 3), (.int .u64 (45))]⟩
 (.letE ⟨(.bin .xor 3), [(.var 4), (.var 5)]⟩
 (.letE ⟨(.bin .and 3), [(.var 6), (.int .i64 (255))]⟩
 (.letE ⟨.len, [(.fld (.var 0) 0)]⟩
 (.letE ⟨(.bin .lss 3), [(.fld (.var 0) 1), (.var 8)]⟩
 (.ite (.var 9)
 (.letE ⟨(.idx 1), [(.fld (.var 0) 0), (.fld (.var 0) 1)]⟩
 (.letE ⟨.a, [(.fld (.var 10) 0)]⟩
 (.letE ⟨(.conv .i64), [(.var 11)]⟩
 (.letE ⟨(.bin .add 3), [(.var 7), (.var 12)]⟩
 (.letE ⟨(.bin .and 3), [(.var 13), (.int .i64 (255))]⟩
 (.letE ⟨(.bin .add 3), [(.fld (.var 0) 1), (.int .i64 (1))]⟩
 (.letE ⟨.atom, [(.var 15)]⟩
 (.letE ⟨.mk, [(.fld (.var 0) 0), (.var 16), (.var 3)]⟩
 (.ret [(.var 14), (.var 17)])))))))))
 (.letE ⟨.mk, [(.fld (.var 0) 0), (.fld (.var 0) 1), (.var 3)]⟩
 (.ret [(.var 7), (.var 10)]))))))))))))
/- loop.example/g00365/spec.l1Below -/
def sg110 : Sig := ⟨[.val], [((.int .i64), .sh)], false, some (0, .box (.pair (.sl (.int .u8)) (.pair (.int .i64) (.pair (.int .i64) .unit))) .sh .sh), false⟩
def hi110 : Hints := []
def ir110 : IR := (.letE ⟨(.bin .leq 3), [(.var 0), (.int .i64 (0))]⟩
 (.ite (.var 2)
 (.letE ⟨.mk, [(.fld (.var 1) 0), (.fld (.var 1) 1), (.fld (.var 1) 2)]⟩
 (.ret [(.int .i64 (0)), (.var 3)]))
 (.letE ⟨(.bin .leq 3), [(.var 0), (.int .i64 (256))]⟩
 (.ite (.var 3)
 (.letE ⟨.mk, [(.fld (.var 1) 0), (.fld (.var 1) 1), (.fld (.var 1) 2)]⟩
 (.call 167 [(.var 4)] 2
 (.letE ⟨(.bin .rem 3), [(.var 5), (.var 0)]⟩
 (.letE ⟨.mk, [(.fld (.var 6) 0), (.fld (.var 6) 1), (.fld (.var 6) 2)]⟩
 (.ret [(.var 7), (.var 8)])))))
 (.letE ⟨.mk, [(.fld (.var 1) 0), (.fld (.var 1) 1), (.fld (.var 1) 2)]⟩
 (.call 167 [(.var 4)] 2
 (.letE ⟨.mk, [(.fld (.var 6) 0), (.fld (.var 6) 1), (.fld (.var 6) 2)]⟩
 (.call 167 [(.var 7)] 2
 (.letE ⟨.mk, [(.fld (.var 9) 0), (.fld (.var 9) 1), (.fld (.var 9) 2)]⟩
 (.call 167 [(.var 10)] 2
 (.letE ⟨.mk, [(.fld (.var 12) 0), (.fld (.var 12) 1), (.fld (.var 12) 2)]⟩
 (.call 167 [(.var 13)] 2
 (.letE ⟨(.bin .mul 3), [(.var 5), (.int .i64 (16777216))]⟩
 (.letE ⟨(.bin .mul 3), [(.var 8), (.int .i64 (65536))]⟩
 (.letE ⟨(.bin .add 3), [(.var 16), (.var 17)]⟩
 (.letE ⟨(.bin .mul 3), [(.var 11), (.int .i64 (256))]⟩
 (.letE ⟨(.bin .add 3), [(.var 18), (.var 19)]⟩
 (.letE ⟨(.bin .add 3), [(.var 20), (.var 14)]⟩
 (.letE ⟨(.bin .rem 3), [(.var 21), (.var 0)]⟩
 (.letE ⟨.mk, [(.fld (.var 15) 0), (.fld (.var 15) 1), (.fld (.var 15) 2)]⟩
 (.ret [(.var 22), (.var 23)])))))))))))))))))))))
/- loop.example/g00365/spec.l1PickInt -/
def sg111 : Sig := ⟨[.val], [((.int .i64), .sh)], false, some (0, .box (.pair (.sl (.int .u8)) (.pair (.int .i64) (.pair (.int .i64) .unit))) .sh .sh), false⟩
def hi111 : Hints := []
def ir111 : IR := (.letE ⟨.len, [(.var 0)]⟩
 (.letE ⟨.mk, [(.fld (.var 1) 0), (.fld (.var 1) 1), (.fld (.var 1) 2)]⟩
 (.call 110 [(.var 2), (.var 3)] 2
 (.letE ⟨(.idx 1), [(.var 0), (.var 4)]⟩
 (.letE ⟨.a, [(.fld (.var 6) 0)]⟩
 (.letE ⟨.mk, [(.fld (.var 5) 0), (.fld (.var 5) 1), (.fld (.var 5) 2)]⟩
 (.ret [(.var 7), (.var 8)])))))))
/- loop.example/g00365/spec.l4count -/
def sg64 : Sig := ⟨[], [((.int .i64), .sh)], false, some (0, .box (.pair (.sl (.int .u8)) (.pair (.int .i64) (.pair (.int .i64) .unit))) .sh .sh), false⟩
def hi64 : Hints := []
def ir64 : IR := (.letE ⟨(.lst (.int .i64)), [(.int .i64 (1)), (.int .i64 (2)), (.int .i64 (3)), (.int .i64 (3)), (.int .i64 (3)), (.int .i64 (5))]⟩
 (.letE ⟨.mk, [(.fld (.var 0) 0), (.fld (.var 0) 1), (.fld (.var 0) 2)]⟩
 (.call 111 [(.var 1), (.var 2)] 2
 (.letE ⟨.mk, [(.fld (.var 4) 0), (.fld (.var 4) 1), (.fld (.var 4) 2)]⟩
 (.ret [(.var 3), (.var 5)])))))
/- loop.example/g00365/spec.l1New -/
def sg63 : Sig := ⟨[.val], [((.pair (.sl (.int .u8)) (.pair (.int .i64) (.pair (.int .i64) .unit))), .sh)], false, none, true⟩
def hi63 : Hints := [((0, 3), ⟨[(3, .sh), (4, .sh)], [], []⟩)]
def ir63 : IR := (.letE ⟨.len, [(.var 0)]⟩
 (.letE ⟨(.bin .add 3), [(.int .i64 (36565)), (.var 1)]⟩
 (.label true
 (.letE ⟨.len, [(.var 0)]⟩
 (.letE ⟨(.bin .lss 3), [(.var 4), (.var 5)]⟩
 (.ite (.var 6)
 (.letE ⟨(.bin .lss 3), [(.var 4), (.int .i64 (4000))]⟩
 (.ite (.var 7)
 (.letE ⟨(.bin .mul 3), [(.var 3), (.int .i64 (131))]⟩
 (.letE ⟨(.idx 1), [(.var 0), (.var 4)]⟩
 (.letE ⟨.a, [(.fld (.var 9) 0)]⟩
 (.letE ⟨(.conv .i64), [(.var 10)]⟩
 (.letE ⟨(.bin .add 3), [(.var 8), (.var 11)]⟩
 (.letE ⟨(.bin .add 3), [(.var 12), (.int .i64 (7))]⟩
 (.letE ⟨(.bin .and 3), [(.var 13), (.int .i64 (1073741823))]⟩
 (.letE ⟨(.bin .add 3), [(.var 4), (.int .i64 (1))]⟩
 (.jump 0 [(.var 14), (.var 15)])))))))))
 (.letE ⟨.atom, [(.var 0)]⟩
 (.letE ⟨.atom, [(.var 3)]⟩
 (.letE ⟨.mk, [(.var 8), (.int .i64 (0)), (.var 9)]⟩
 (.letE ⟨(.all 3), [(.var 10)]⟩
 (.letE ⟨.mk, [(.fld (.var 11) 0), (.fld (.var 11) 1), (.fld (.var 11) 2)]⟩
 (.ret [(.var 12)]))))))))
 (.letE ⟨.atom, [(.var 0)]⟩
 (.letE ⟨.atom, [(.var 3)]⟩
 (.letE ⟨.mk, [(.var 7), (.int .i64 (0)), (.var 8)]⟩
 (.letE ⟨(.all 3), [(.var 9)]⟩
 (.letE ⟨.mk, [(.fld (.var 10) 0), (.fld (.var 10) 1), (.fld (.var 10) 2)]⟩
 (.ret [(.var 11)])))))))))
 (.jump 0 [(.var 2), (.int .i64 (0))]))))
/- (loop.example/g00365/impl.Node).termAt -/
def sg182 : Sig := ⟨[.val, .val], [((.int .i64), .sh)], true, none, false⟩
def hi182 : Hints := []
def ir182 : IR := (.letE ⟨(.all 11), [(.var 0)]⟩
 (.letE ⟨.len, [(.fld (.var 2) 3)]⟩
 (.call 60 [(.var 1), (.int .i64 (1)), (.var 3)] 1
 (.letE ⟨(.un .not), [(.var 4)]⟩
 (.ite (.var 5)
 (.ret [(.int .i64 (0))])
 (.letE ⟨(.bin .sub 3), [(.var 1), (.int .i64 (1))]⟩
 (.letE ⟨(.idx 7), [(.fld (.var 2) 3), (.var 6)]⟩
 (.letE ⟨.a, [(.fld (.var 7) 0)]⟩
 (.ret [(.var 8)])))))))))
/- (*loop.example/g00365/impl.server).advance -/
def sg132 : Sig := ⟨[], [], true, some (0, .box (.pair (.int .i64) (.pair (.int .i64) (.pair (.int .i64) (.pair (.sl (.pair (.int .i64) (.pair (.int .i64) (.pair (.int .i64) (.pair (.int .i64) (.pair (.sl (.int .u8)) (.pair (.sl (.int .u8)) (.pair (.int .i64) .unit)))))))) (.pair (.int .i64) (.pair (.int .i64) (.pair (.int .i64) (.pair (.int .i64) (.pair (.sl .bool) (.pair (.sl (.int .i64)) (.pair (.sl (.int .i64)) (.pair (.sl (.pair (.int .i64) (.pair (.int .i64) (.pair (.int .i64) (.pair (.int .i64) (.pair (.int .i64) (.pair (.int .i64) (.pair (.sl (.pair (.int .i64) (.pair (.int .i64) (.pair (.int .i64) (.pair (.int .i64) (.pair (.sl (.int .u8)) (.pair (.sl (.int .u8)) (.pair (.int .i64) .unit)))))))) (.pair (.int .i64) (.pair .bool .unit)))))))))) .unit)))))))))))) (.pair .sh (.pair .sh (.pair .sh (.pair (.own (.pair .sh (.pair .sh (.pair .sh (.pair .sh (.pair (.own .sh) (.pair (.own .sh) .sh))))))) (.pair .sh (.pair .sh (.pair .sh (.pair .sh (.pair (.own .sh) (.pair (.own .sh) (.pair (.own .sh) (.pair (.own (.pair .sh (.pair .sh (.pair .sh (.pair .sh (.pair .sh (.pair .sh (.pair (.own (.pair .sh (.pair .sh (.pair .sh (.pair .sh (.pair (.own .sh) (.pair (.own .sh) .sh))))))) .sh)))))))) .sh)))))))))))) (.pair .sh (.pair .sh (.pair .sh (.pair (.own (.pair .sh (.pair .sh (.pair .sh (.pair .sh (.pair (.own .sh) (.pair (.own .sh) .sh))))))) (.pair .sh (.pair .sh (.pair .sh (.pair .sh (.pair (.own .sh) (.pair (.own .sh) (.pair (.own .sh) (.pair (.own (.pair .sh (.pair .sh (.pair .sh (.pair .sh (.pair .sh (.pair .sh (.pair (.own (.pair .sh (.pair .sh (.pair .sh (.pair .sh (.pair (.own .sh) (.pair (.own .sh) .sh))))))) .sh)))))))) .sh))))))))))))), false⟩
def hi132 : Hints := [((0, 6), ⟨[(3, .sh), (62, .sh)], [], []⟩), ((0, 2), ⟨[(2, .sh)], [], []⟩)]
def ir132 : IR := (.letE ⟨.len, [(.fld (.var 0) 10)]⟩
 (.letE ⟨.len, [(.fld (.var 0) 9)]⟩
 (.letE ⟨.len, [(.fld (.var 0) 3)]⟩
 (.letE ⟨.len, [(.fld (.var 0) 3)]⟩
 (.letE ⟨(.bin .add 3), [(.var 4), (.int .i64 (1))]⟩
 (.letE ⟨(.idx 1), [(.fld (.var 0) 10), (.fld (.var 0) 0)]⟩
 (.letE ⟨(.setE 1), [(.fld (.var 0) 10), (.fld (.var 0) 0), (.var 3)]⟩
 (.letE ⟨(.idx 1), [(.fld (.var 0) 9), (.fld (.var 0) 0)]⟩
 (.letE ⟨(.setE 1), [(.fld (.var 0) 9), (.fld (.var 0) 0), (.var 5)]⟩
 (.letE ⟨.len, [(.fld (.var 0) 3)]⟩
 (.label true
 (.letE ⟨(.bin .gtr 3), [(.var 11), (.fld (.var 0) 4)]⟩
 (.ite (.var 12)
 (.letE ⟨.len, [(.var 7)]⟩
 (.label true
 (.letE ⟨(.bin .lss 3), [(.var 15), (.var 13)]⟩
 (.ite (.var 16)
 (.letE ⟨(.idx 1), [(.var 7), (.var 15)]⟩
 (.letE ⟨(.idx 1), [(.var 7), (.var 15)]⟩
 (.letE ⟨.a, [(.fld (.var 18) 0)]⟩
 (.letE ⟨(.bin .geq 3), [(.var 19), (.var 11)]⟩
 (.ite (.var 20)
 (.letE ⟨(.bin .add 3), [(.var 14), (.int .i64 (1))]⟩
 (.letE ⟨(.bin .add 3), [(.var 15), (.int .i64 (1))]⟩
 (.jump 1 [(.var 21), (.var 22)])))
 (.letE ⟨(.bin .add 3), [(.var 15), (.int .i64 (1))]⟩
 (.jump 1 [(.var 14), (.var 21)])))))))
 (.letE ⟨.mk, [(.fld (.var 0) 0), (.fld (.var 0) 1), (.fld (.var 0) 2), (.fld (.var 0) 3), (.fld (.var 0) 4), (.fld (.var 0) 5), (.fld (.var 0) 6), (.fld (.var 0) 7), (.fld (.var 0) 8), (.var 9), (.var 7)]⟩
 (.call 182 [(.var 17), (.var 11)] 1
 (.letE ⟨(.bin .eql 3), [(.var 18), (.fld (.var 0) 1)]⟩
 (.ite (.var 19)
 (.letE ⟨.mk, [(.fld (.var 0) 0), (.fld (.var 0) 1), (.fld (.var 0) 2), (.fld (.var 0) 3), (.fld (.var 0) 4), (.fld (.var 0) 5), (.fld (.var 0) 6), (.fld (.var 0) 7), (.fld (.var 0) 8), (.var 9), (.var 7)]⟩
 (.call 183 [(.var 20), (.var 14)] 1
 (.ite (.var 21)
 (.letE ⟨.atom, [(.var 11)]⟩
 (.letE ⟨.mk, [(.fld (.var 0) 0), (.fld (.var 0) 1), (.fld (.var 0) 2), (.fld (.var 0) 3), (.var 22), (.fld (.var 0) 5), (.fld (.var 0) 6), (.fld (.var 0) 7), (.fld (.var 0) 8), (.var 9), (.var 7), (.fld (.var 0) 11)]⟩
 (.ret [(.var 23)])))
 (.letE ⟨(.bin .sub 3), [(.var 11), (.int .i64 (1))]⟩
 (.jump 0 [(.var 22)])))))
 (.letE ⟨(.bin .sub 3), [(.var 11), (.int .i64 (1))]⟩
 (.jump 0 [(.var 20)]))))))))
 (.jump 1 [(.int .i64 (0)), (.int .i64 (0))])))
 (.letE ⟨.mk, [(.fld (.var 0) 0), (.fld (.var 0) 1), (.fld (.var 0) 2), (.fld (.var 0) 3), (.fld (.var 0) 4), (.fld (.var 0) 5), (.fld (.var 0) 6), (.fld (.var 0) 7), (.fld (.var 0) 8), (.var 9), (.var 7), (.fld (.var 0) 11)]⟩
 (.ret [(.var 13)]))))
 (.jump 0 [(.var 10)]))))))))))))
/- loop.example/g00365/impl.KeyOk -/
def sg152 : Sig := ⟨[.val], [(.bool, .sh)], true, none, false⟩
def hi152 : Hints := [((0, 2), ⟨[(2, .sh), (7, .sh)], [], []⟩)]
def ir152 : IR := (.letE ⟨.len, [(.var 0)]⟩
 (.label true
 (.letE ⟨(.bin .lss 3), [(.var 3), (.var 1)]⟩
 (.ite (.var 4)
 (.letE ⟨(.idx 1), [(.var 0), (.var 3)]⟩
 (.letE ⟨.a, [(.fld (.var 5) 0)]⟩
 (.letE ⟨(.bin .lss 5), [(.var 6), (.int .u8 (97))]⟩
 (.ite (.var 7)
 (.letE ⟨(.bin .neq 5), [(.var 6), (.int .u8 (47))]⟩
 (.ite (.var 8)
 (.ret [(.bool false)])
 (.letE ⟨(.bin .add 3), [(.var 3), (.int .i64 (1))]⟩
 (.jump 0 [(.var 2), (.var 9)]))))
 (.letE ⟨(.bin .gtr 5), [(.var 6), (.int .u8 (122))]⟩
 (.ite (.var 8)
 (.letE ⟨(.bin .neq 5), [(.var 6), (.int .u8 (47))]⟩
 (.ite (.var 9)
 (.ret [(.bool false)])
 (.letE ⟨(.bin .add 3), [(.var 3), (.int .i64 (1))]⟩
 (.jump 0 [(.var 2), (.var 10)]))))
 (.letE ⟨(.bin .add 3), [(.var 3), (.int .i64 (1))]⟩
 (.jump 0 [(.var 2), (.var 9)]))))))))
 (.letE ⟨.len, [(.var 0)]⟩
 (.call 60 [(.var 5), (.int .i64 (1)), (.int .i64 (20))] 1
 (.ret [(.var 6)])))))
 (.jump 0 [(.bool false), (.int .i64 (0))])))
/- loop.example/g00365/impl.OpOk -/
def sg129 : Sig := ⟨[.val], [(.bool, .sh)], true, none, false⟩
def hi129 : Hints := [((1, 19), ⟨[(2, .sh), (3, .sh), (4, .sh), (5, .sh), (6, .sh)], [], [7, 8, 9, 10, 11, 12, 13, 14, 15, 16, 17, 18, 19, 20, 21, 22, 23, 24]⟩)]
def ir129 : IR := (.letE ⟨(.all 4), [(.var 0)]⟩
 (.label false
 (.call 60 [(.fld (.var 1) 3), (.var 5), (.var 6)] 1
 (.ite (.var 7)
 (.ite (.var 3)
 (.call 152 [(.fld (.var 1) 1)] 1
 (.ite (.var 8)
 (.ite (.var 4)
 (.call 181 [(.fld (.var 1) 2)] 1
 (.ite (.var 9)
 (.ret [(.bool true)])
 (.letE ⟨(.un .not), [(.var 4)]⟩
 (.ite (.var 10)
 (.letE ⟨.len, [(.fld (.var 1) 2)]⟩
 (.letE ⟨(.bin .eql 3), [(.var 11), (.int .i64 (0))]⟩
 (.ret [(.var 12)])))
 (.ret [(.bool false)])))))
 (.letE ⟨(.un .not), [(.var 4)]⟩
 (.ite (.var 9)
 (.letE ⟨.len, [(.fld (.var 1) 2)]⟩
 (.letE ⟨(.bin .eql 3), [(.var 10), (.int .i64 (0))]⟩
 (.ret [(.var 11)])))
 (.ret [(.bool false)]))))
 (.letE ⟨(.un .not), [(.var 3)]⟩
 (.ite (.var 9)
 (.letE ⟨.len, [(.fld (.var 1) 1)]⟩
 (.letE ⟨(.bin .eql 3), [(.var 10), (.int .i64 (0))]⟩
 (.ite (.var 11)
 (.ite (.var 4)
 (.call 181 [(.fld (.var 1) 2)] 1
 (.ite (.var 12)
 (.ret [(.bool true)])
 (.letE ⟨(.un .not), [(.var 4)]⟩
 (.ite (.var 13)
 (.letE ⟨.len, [(.fld (.var 1) 2)]⟩
 (.letE ⟨(.bin .eql 3), [(.var 14), (.int .i64 (0))]⟩
 (.ret [(.var 15)])))
 (.ret [(.bool false)])))))
 (.letE ⟨(.un .not), [(.var 4)]⟩
 (.ite (.var 12)
 (.letE ⟨.len, [(.fld (.var 1) 2)]⟩
 (.letE ⟨(.bin .eql 3), [(.var 13), (.int .i64 (0))]⟩
 (.ret [(.var 14)])))
 (.ret [(.bool false)]))))
 (.ret [(.bool false)]))))
 (.ret [(.bool false)])))))
 (.letE ⟨(.un .not), [(.var 3)]⟩
 (.ite (.var 8)
 (.letE ⟨.len, [(.fld (.var 1) 1)]⟩
 (.letE ⟨(.bin .eql 3), [(.var 9), (.int .i64 (0))]⟩
 (.ite (.var 10)
 (.ite (.var 4)
 (.call 181 [(.fld (.var 1) 2)] 1
 (.ite (.var 11)
 (.ret [(.bool true)])
 (.letE ⟨(.un .not), [(.var 4)]⟩
 (.ite (.var 12)
 (.letE ⟨.len, [(.fld (.var 1) 2)]⟩
 (.letE ⟨(.bin .eql 3), [(.var 13), (.int .i64 (0))]⟩
 (.ret [(.var 14)])))
 (.ret [(.bool false)])))))
 (.letE ⟨(.un .not), [(.var 4)]⟩
 (.ite (.var 11)
 (.letE ⟨.len, [(.fld (.var 1) 2)]⟩
 (.letE ⟨(.bin .eql 3), [(.var 12), (.int .i64 (0))]⟩
 (.ret [(.var 13)])))
 (.ret [(.bool false)]))))
 (.ret [(.bool false)]))))
 (.ret [(.bool false)]))))
 (.ret [(.bool false)])))
 (.letE ⟨(.bin .eql 3), [(.fld (.var 1) 0), (.int .i64 (0))]⟩
 (.ite (.var 2)
 (.jump 0 [(.bool false), (.bool false), (.bool false), (.int .i64 (0)), (.int .i64 (0))])
 (.letE ⟨(.bin .eql 3), [(.fld (.var 1) 0), (.int .i64 (1))]⟩
 (.ite (.var 3)
 (.jump 0 [(.bool false), (.bool true), (.bool true), (.int .i64 (0)), (.int .i64 (0))])
 (.letE ⟨(.bin .eql 3), [(.fld (.var 1) 0), (.int .i64 (2))]⟩
 (.ite (.var 4)
 (.jump 0 [(.bool false), (.bool true), (.bool true), (.int .i64 (0)), (.int .i64 (1000000))])
 (.letE ⟨(.bin .eql 3), [(.fld (.var 1) 0), (.int .i64 (3))]⟩
 (.ite (.var 5)
 (.jump 0 [(.bool false), (.bool true), (.bool false), (.int .i64 (0)), (.int .i64 (0))])
 (.letE ⟨(.bin .eql 3), [(.fld (.var 1) 0), (.int .i64 (4))]⟩
 (.ite (.var 6)
 (.jump 0 [(.bool false), (.bool false), (.bool false), (.int .i64 (0)), (.int .i64 (1))])
 (.letE ⟨(.bin .eql 3), [(.fld (.var 1) 0), (.int .i64 (5))]⟩
 (.ite (.var 7)
 (.jump 0 [(.bool false), (.bool false), (.bool false), (.int .i64 (1)), (.int .i64 (1000000))])
 (.letE ⟨(.bin .eql 3), [(.fld (.var 1) 0), (.int .i64 (6))]⟩
 (.ite (.var 8)
 (.jump 0 [(.bool false), (.bool true), (.bool true), (.int .i64 (1)), (.int .i64 (1000000))])
 (.letE ⟨(.bin .eql 3), [(.fld (.var 1) 0), (.int .i64 (7))]⟩
 (.ite (.var 9)
 (.jump 0 [(.bool false), (.bool true), (.bool false), (.int .i64 (1)), (.int .i64 (1000000))])
 (.ret [(.bool false)])))))))))))))))))))
/- loop.example/g00365/impl.CmdOk -/
def sg67 : Sig := ⟨[.val], [(.bool, .sh)], true, none, false⟩
def hi67 : Hints := []
def ir67 : IR := (.letE ⟨(.all 6), [(.var 0)]⟩
 (.letE ⟨.mk, [(.fld (.var 1) 0), (.fld (.var 1) 1), (.fld (.var 1) 2), (.fld (.var 1) 3), (.fld (.var 1) 4), (.fld (.var 1) 5)]⟩
 (.call 128 [] 1
 (.call 127 [(.var 2), (.var 3)] 1
 (.ite (.var 4)
 (.ret [(.bool true)])
 (.call 60 [(.fld (.var 1) 0), (.int .i64 (0)), (.int .i64 (3))] 1
 (.ite (.var 5)
 (.call 60 [(.fld (.var 1) 1), (.int .i64 (1)), (.int .i64 (1000000))] 1
 (.ite (.var 6)
 (.letE ⟨.mk, [(.fld (.var 1) 2), (.fld (.var 1) 3), (.fld (.var 1) 4), (.fld (.var 1) 5)]⟩
 (.call 129 [(.var 7)] 1
 (.ret [(.var 8)])))
 (.ret [(.bool false)])))
 (.ret [(.bool false)]))))))))
/- loop.example/g00365/impl.isTerm -/
def sg122 : Sig := ⟨[.val], [(.bool, .sh)], true, none, false⟩
def hi122 : Hints := []
def ir122 : IR := (.call 60 [(.var 0), (.int .i64 (1)), (.int .i64 (100000))] 1
 (.ret [(.var 1)]))
/- loop.example/g00365/impl.ItemOk -/
def sg61 : Sig := ⟨[.val], [(.bool, .sh)], true, none, false⟩
def hi61 : Hints := []
def ir61 : IR := (.letE ⟨(.all 7), [(.var 0)]⟩
 (.call 122 [(.fld (.var 1) 0)] 1
 (.ite (.var 2)
 (.letE ⟨.mk, [(.fld (.var 1) 1), (.fld (.var 1) 2), (.fld (.var 1) 3), (.fld (.var 1) 4), (.fld (.var 1) 5), (.fld (.var 1) 6)]⟩
 (.call 67 [(.var 3)] 1
 (.ret [(.var 4)])))
 (.ret [(.bool false)]))))
/- loop.example/g00365/impl.NodeOk -/
def sg15 : Sig := ⟨[.val, .val], [(.bool, .sh)], true, none, false⟩
def hi15 : Hints := [((1, 19), ⟨[(193, .sh)], [], [145, 146, 147, 148, 149, 150, 151, 152, 153, 154, 155, 156, 157, 158, 159, 160, 161, 162, 163, 164, 165, 166, 167, 168, 169, 170, 171, 172, 173, 174, 175, 176, 177, 178, 179, 180, 181, 182, 183, 184, 185, 186, 187, 188, 189, 190, 191, 192]⟩), ((0, 16), ⟨[(4, .sh), (142, .sh)], [], []⟩), ((1, 14), ⟨[(140, .sh)], [], [104, 105, 106, 107, 108, 109, 110, 111, 112, 113, 114, 115, 116, 117, 118, 119, 120, 121, 122, 123, 124, 125, 126, 127, 128, 129, 130, 131, 132, 133, 134, 135, 136, 137, 138, 139]⟩), ((1, 12), ⟨[(103, .sh)], [], [64, 65, 66, 67, 68, 69, 70, 71, 72, 73, 74, 75, 76, 77, 78, 79, 80, 81, 82, 83, 84, 85, 86, 87, 88, 89, 90, 91, 92, 93, 94, 95, 96, 97, 98, 99, 100, 101, 102]⟩), ((1, 8), ⟨[(60, .sh)], [], [49, 50, 51, 52, 53, 54, 55, 56, 57, 58, 59]⟩), ((0, 5), ⟨[(4, .sh), (5, .sh), (45, .sh)], [], []⟩), ((1, 2), ⟨[(41, .sh)], [], [9, 10, 11, 12, 13, 14, 15, 16, 17, 18, 19, 20, 21, 22, 23, 24, 25, 26, 27, 28, 29, 30, 31, 32, 33, 34, 35, 36, 37, 38, 39, 40]⟩)]
def ir15 : IR := (.letE ⟨(.all 11), [(.var 0)]⟩
 (.label false
 (.ite (.var 3)
 (.ret [(.bool false)])
 (.letE ⟨.len, [(.fld (.var 2) 3)]⟩
 (.label true
 (.letE ⟨(.bin .lss 3), [(.var 7), (.var 4)]⟩
 (.ite (.var 8)
 (.letE ⟨(.idx 7), [(.fld (.var 2) 3), (.var 7)]⟩
 (.letE ⟨(.cells 0 7), [(.var 9)]⟩
 (.letE ⟨(.all 7), [(.var 10)]⟩
 (.label false
 (.ite (.var 12)
 (.ret [(.bool false)])
 (.letE ⟨(.bin .add 3), [(.var 7), (.int .i64 (1))]⟩
 (.jump 1 [(.var 5), (.fld (.var 11) 0), (.var 13)])))
 (.letE ⟨.mk, [(.fld (.var 11) 0), (.fld (.var 11) 1), (.fld (.var 11) 2), (.fld (.var 11) 3), (.fld (.var 11) 4), (.fld (.var 11) 5), (.fld (.var 11) 6)]⟩
 (.call 61 [(.var 12)] 1
 (.letE ⟨(.un .not), [(.var 13)]⟩
 (.ite (.var 14)
 (.jump 2 [(.bool true)])
 (.call 60 [(.fld (.var 11) 0), (.var 6), (.fld (.var 2) 1)] 1
 (.letE ⟨(.un .not), [(.var 15)]⟩
 (.jump 2 [(.var 16)])))))))))))
 (.label false
 (.ite (.var 9)
 (.ret [(.bool false)])
 (.label false
 (.ite (.var 10)
 (.ret [(.bool false)])
 (.label true
 (.letE ⟨(.bin .lss 3), [(.var 12), (.var 1)]⟩
 (.ite (.var 13)
 (.label false
 (.ite (.var 14)
 (.ret [(.bool false)])
 (.letE ⟨(.bin .add 3), [(.var 12), (.int .i64 (1))]⟩
 (.jump 4 [(.var 11), (.var 15)])))
 (.letE ⟨(.bin .eql 3), [(.fld (.var 2) 5), (.int .i64 (2))]⟩
 (.ite (.var 14)
 (.letE ⟨(.idx 1), [(.fld (.var 2) 9), (.var 12)]⟩
 (.letE ⟨.a, [(.fld (.var 15) 0)]⟩
 (.letE ⟨.len, [(.fld (.var 2) 3)]⟩
 (.letE ⟨(.bin .add 3), [(.var 17), (.int .i64 (1))]⟩
 (.call 60 [(.var 16), (.int .i64 (1)), (.var 18)] 1
 (.letE ⟨(.un .not), [(.var 19)]⟩
 (.ite (.var 20)
 (.jump 5 [(.bool true)])
 (.letE ⟨(.idx 1), [(.fld (.var 2) 10), (.var 12)]⟩
 (.letE ⟨.a, [(.fld (.var 21) 0)]⟩
 (.letE ⟨.len, [(.fld (.var 2) 3)]⟩
 (.call 60 [(.var 22), (.int .i64 (0)), (.var 23)] 1
 (.letE ⟨(.un .not), [(.var 24)]⟩
 (.ite (.var 25)
 (.jump 5 [(.bool true)])
 (.letE ⟨(.bin .neq 3), [(.fld (.var 2) 5), (.int .i64 (2))]⟩
 (.ite (.var 26)
 (.letE ⟨(.idx 1), [(.fld (.var 2) 9), (.var 12)]⟩
 (.letE ⟨.a, [(.fld (.var 27) 0)]⟩
 (.letE ⟨(.bin .neq 3), [(.var 28), (.int .i64 (0))]⟩
 (.ite (.var 29)
 (.jump 5 [(.bool true)])
 (.letE ⟨(.idx 1), [(.fld (.var 2) 10), (.var 12)]⟩
 (.letE ⟨.a, [(.fld (.var 30) 0)]⟩
 (.letE ⟨(.bin .neq 3), [(.var 31), (.int .i64 (0))]⟩
 (.jump 5 [(.var 32)]))))))))
 (.jump 5 [(.bool false)]))))))))))))))))
 (.letE ⟨(.bin .neq 3), [(.fld (.var 2) 5), (.int .i64 (2))]⟩
 (.ite (.var 15)
 (.letE ⟨(.idx 1), [(.fld (.var 2) 9), (.var 12)]⟩
 (.letE ⟨.a, [(.fld (.var 16) 0)]⟩
 (.letE ⟨(.bin .neq 3), [(.var 17), (.int .i64 (0))]⟩
 (.ite (.var 18)
 (.jump 5 [(.bool true)])
 (.letE ⟨(.idx 1), [(.fld (.var 2) 10), (.var 12)]⟩
 (.letE ⟨.a, [(.fld (.var 19) 0)]⟩
 (.letE ⟨(.bin .neq 3), [(.var 20), (.int .i64 (0))]⟩
 (.jump 5 [(.var 21)]))))))))
 (.jump 5 [(.bool false)]))))))
 (.ret [(.bool true)])))
 (.jump 4 [(.var 5), (.int .i64 (0))])))
 (.letE ⟨(.bin .eql 3), [(.fld (.var 2) 5), (.int .i64 (0))]⟩
 (.ite (.var 10)
 (.call 62 [(.fld (.var 2) 8), (.bool true)] 1
 (.ite (.var 11)
 (.jump 3 [(.bool true)])
 (.letE ⟨(.bin .neq 3), [(.fld (.var 2) 5), (.int .i64 (0))]⟩
 (.ite (.var 12)
 (.letE ⟨(.bin .lss 3), [(.fld (.var 2) 1), (.int .i64 (1))]⟩
 (.ite (.var 13)
 (.jump 3 [(.bool true)])
 (.letE ⟨(.bin .neq 3), [(.fld (.var 2) 2), (.fld (.var 2) 0)]⟩
 (.ite (.var 14)
 (.jump 3 [(.bool true)])
 (.letE ⟨(.bin .eql 3), [(.fld (.var 2) 5), (.int .i64 (2))]⟩
 (.ite (.var 15)
 (.letE ⟨(.bin .neq 3), [(.fld (.var 2) 6), (.fld (.var 2) 0)]⟩
 (.jump 3 [(.var 16)]))
 (.jump 3 [(.bool false)])))))))
 (.letE ⟨(.bin .eql 3), [(.fld (.var 2) 5), (.int .i64 (2))]⟩
 (.ite (.var 13)
 (.letE ⟨(.bin .neq 3), [(.fld (.var 2) 6), (.fld (.var 2) 0)]⟩
 (.jump 3 [(.var 14)]))
 (.jump 3 [(.bool false)])))))))
 (.letE ⟨(.bin .neq 3), [(.fld (.var 2) 5), (.int .i64 (0))]⟩
 (.ite (.var 11)
 (.letE ⟨(.bin .lss 3), [(.fld (.var 2) 1), (.int .i64 (1))]⟩
 (.ite (.var 12)
 (.jump 3 [(.bool true)])
 (.letE ⟨(.bin .neq 3), [(.fld (.var 2) 2), (.fld (.var 2) 0)]⟩
 (.ite (.var 13)
 (.jump 3 [(.bool true)])
 (.letE ⟨(.bin .eql 3), [(.fld (.var 2) 5), (.int .i64 (2))]⟩
 (.ite (.var 14)
 (.letE ⟨(.bin .neq 3), [(.fld (.var 2) 6), (.fld (.var 2) 0)]⟩
 (.jump 3 [(.var 15)]))
 (.jump 3 [(.bool false)])))))))
 (.letE ⟨(.bin .eql 3), [(.fld (.var 2) 5), (.int .i64 (2))]⟩
 (.ite (.var 12)
 (.letE ⟨(.bin .neq 3), [(.fld (.var 2) 6), (.fld (.var 2) 0)]⟩
 (.jump 3 [(.var 13)]))
 (.jump 3 [(.bool false)])))))))))
 (.letE ⟨.len, [(.fld (.var 2) 3)]⟩
 (.call 60 [(.fld (.var 2) 4), (.int .i64 (0)), (.var 9)] 1
 (.letE ⟨(.un .not), [(.var 10)]⟩
 (.ite (.var 11)
 (.jump 2 [(.bool true)])
 (.call 60 [(.fld (.var 2) 5), (.int .i64 (0)), (.int .i64 (2))] 1
 (.letE ⟨(.un .not), [(.var 12)]⟩
 (.ite (.var 13)
 (.jump 2 [(.bool true)])
 (.call 60 [(.fld (.var 2) 7), (.int .i64 (0)), (.int .i64 (20))] 1
 (.letE ⟨(.un .not), [(.var 14)]⟩
 (.ite (.var 15)
 (.jump 2 [(.bool true)])
 (.letE ⟨.len, [(.fld (.var 2) 8)]⟩
 (.letE ⟨(.bin .neq 3), [(.var 16), (.var 1)]⟩
 (.ite (.var 17)
 (.jump 2 [(.bool true)])
 (.letE ⟨.len, [(.fld (.var 2) 9)]⟩
 (.letE ⟨(.bin .neq 3), [(.var 18), (.var 1)]⟩
 (.ite (.var 19)
 (.jump 2 [(.bool true)])
 (.letE ⟨.len, [(.fld (.var 2) 10)]⟩
 (.letE ⟨(.bin .neq 3), [(.var 20), (.var 1)]⟩
 (.jump 2 [(.var 21)]))))))))))))))))))))))
 (.jump 1 [(.bool false), (.int .i64 (1)), (.int .i64 (0))]))))
 (.call 59 [(.fld (.var 2) 0), (.var 1)] 1
 (.letE ⟨(.un .not), [(.var 3)]⟩
 (.ite (.var 4)
 (.jump 0 [(.bool true)])
 (.call 60 [(.fld (.var 2) 1), (.int .i64 (0)), (.int .i64 (100000))] 1
 (.letE ⟨(.un .not), [(.var 5)]⟩
 (.ite (.var 6)
 (.jump 0 [(.bool true)])
 (.letE ⟨(.bin .sub 3), [(.var 1), (.int .i64 (1))]⟩
 (.call 60 [(.fld (.var 2) 2), (.int .i64 (-1)), (.var 7)] 1
 (.letE ⟨(.un .not), [(.var 8)]⟩
 (.ite (.var 9)
 (.jump 0 [(.bool true)])
 (.letE ⟨(.bin .sub 3), [(.var 1), (.int .i64 (1))]⟩
 (.call 60 [(.fld (.var 2) 6), (.int .i64 (-1)), (.var 10)] 1
 (.letE ⟨(.un .not), [(.var 11)]⟩
 (.ite (.var 12)
 (.jump 0 [(.bool true)])
 (.letE ⟨.len, [(.fld (.var 2) 3)]⟩
 (.letE ⟨(.bin .gtr 3), [(.var 13), (.int .i64 (400))]⟩
 (.jump 0 [(.var 14)])))))))))))))))))))
/- loop.example/g00365/spec.l1Once -/
def sg109 : Sig := ⟨[.val], [(.bool, .sh)], false, some (0, .box (.pair (.sl (.int .u8)) (.pair (.int .i64) (.pair (.int .i64) .unit))) .sh .sh), false⟩
def hi109 : Hints := []
def ir109 : IR := (.letE ⟨.mk, [(.fld (.var 1) 0), (.fld (.var 1) 1), (.fld (.var 1) 2)]⟩
 (.call 110 [(.var 0), (.var 2)] 2
 (.letE ⟨(.bin .eql 3), [(.var 3), (.int .i64 (0))]⟩
 (.letE ⟨.mk, [(.fld (.var 4) 0), (.fld (.var 4) 1), (.fld (.var 4) 2)]⟩
 (.ret [(.var 5), (.var 6)])))))
/- loop.example/g00365/spec.l2drawKey -/
def sg201 : Sig := ⟨[], [((.sl (.int .u8)), (.own .sh))], false, some (0, .box (.pair (.sl (.int .u8)) (.pair (.int .i64) (.pair (.int .i64) .unit))) .sh .sh), false⟩
def hi201 : Hints := []
def ir201 : IR := (.letE ⟨(.lst .str), [(.str [97]), (.str [98]), (.str [99]), (.str [97, 47, 98]), (.str [100])]⟩
 (.letE ⟨.mk, [(.fld (.var 0) 0), (.fld (.var 0) 1), (.fld (.var 0) 2)]⟩
 (.call 110 [(.int .i64 (5)), (.var 2)] 2
 (.letE ⟨(.idx 1), [(.var 1), (.var 3)]⟩
 (.letE ⟨(.idx 1), [(.var 1), (.var 3)]⟩
 (.letE ⟨.a, [(.fld (.var 6) 0)]⟩
 (.letE ⟨.bytes, [(.var 7)]⟩
 (.letE ⟨.mk, [(.fld (.var 4) 0), (.fld (.var 4) 1), (.fld (.var 4) 2)]⟩
 (.ret [(.var 8), (.var 9)])))))))))
/- loop.example/g00365/spec.l2drawVal -/
def sg200 : Sig := ⟨[], [((.sl (.int .u8)), (.own .sh))], false, some (0, .box (.pair (.sl (.int .u8)) (.pair (.int .i64) (.pair (.int .i64) .unit))) .sh .sh), false⟩
def hi200 : Hints := []
def ir200 : IR := (.letE ⟨(.lst .str), [(.str []), (.str [120]), (.str [121]), (.str [0, 255]), (.str [108, 111, 110, 103, 32, 118, 97, 108, 117, 101])]⟩
 (.letE ⟨.mk, [(.fld (.var 0) 0), (.fld (.var 0) 1), (.fld (.var 0) 2)]⟩
 (.call 110 [(.int .i64 (5)), (.var 2)] 2
 (.letE ⟨(.idx 1), [(.var 1), (.var 3)]⟩
 (.letE ⟨(.idx 1), [(.var 1), (.var 3)]⟩
 (.letE ⟨.a, [(.fld (.var 6) 0)]⟩
 (.letE ⟨.bytes, [(.var 7)]⟩
 (.letE ⟨.mk, [(.fld (.var 4) 0), (.fld (.var 4) 1), (.fld (.var 4) 2)]⟩
 (.ret [(.var 8), (.var 9)])))))))))
/- loop.example/g00365/spec.l2op -/
def sg179 : Sig := ⟨[.val], [((.pair (.int .i64) (.pair (.sl (.int .u8)) (.pair (.sl (.int .u8)) (.pair (.int .i64) .unit)))), (.pair .sh (.pair (.own .sh) (.pair (.own .sh) .sh))))], false, some (0, .box (.pair (.sl (.int .u8)) (.pair (.int .i64) (.pair (.int .i64) .unit))) .sh .sh), false⟩
def hi179 : Hints := [((1, 20), ⟨[], [((0, 0), .sh), ((0, 1), .sh), ((0, 2), .sh), ((5, 3), .sh)], [35, 36, 37, 38, 39, 40, 41, 42, 43, 44, 45, 46, 47, 48, 49, 50, 51, 52, 56, 57, 58, 59, 60, 61, 62, 63, 64, 65, 66]⟩), ((1, 17), ⟨[(52, .sh)], [], [53, 54, 55]⟩), ((1, 9), ⟨[], [((0, 0), .sh), ((0, 1), .sh), ((0, 2), .sh), ((5, 1), (.own .sh))], [31, 32, 34]⟩), ((1, 8), ⟨[(31, .sh)], [], [19, 20, 21, 22, 23, 24, 25, 26, 27, 28, 29, 30]⟩), ((1, 7), ⟨[], [((0, 0), .sh), ((0, 1), .sh), ((0, 2), .sh), ((5, 2), (.own .sh))], [10, 11, 12, 16, 18]⟩), ((1, 6), ⟨[(12, .sh)], [], [13, 14, 15]⟩)]
def ir179 : IR := (.letE ⟨(.lst (.int .i64)), [(.int .i64 (1)), (.int .i64 (1)), (.int .i64 (1)), (.int .i64 (2)), (.int .i64 (3)), (.int .i64 (3)), (.int .i64 (4)), (.int .i64 (5)), (.int .i64 (6)), (.int .i64 (6)), (.int .i64 (7)), (.int .i64 (0))]⟩
 (.letE ⟨.mk, [(.fld (.var 1) 0), (.fld (.var 1) 1), (.fld (.var 1) 2)]⟩
 (.call 111 [(.var 2), (.var 3)] 2
 (.letE ⟨.atom, [(.var 4)]⟩
 (.letE ⟨.mk, [(.var 6), (.nil (.int .u8)), (.nil (.int .u8)), (.int .i64 (0))]⟩
 (.letE ⟨(.all 4), [(.var 7)]⟩
 (.label false
 (.label false
 (.label false
 (.letE ⟨.mk, [(.fld (.var 8) 0), (.var 16), (.var 12), (.var 20)]⟩
 (.letE ⟨(.all 4), [(.var 21)]⟩
 (.letE ⟨.mk, [(.fld (.var 22) 0), (.fld (.var 22) 1), (.fld (.var 22) 2), (.fld (.var 22) 3)]⟩
 (.letE ⟨.mk, [(.var 17), (.var 18), (.var 19)]⟩
 (.ret [(.var 23), (.var 24)])))))
 (.letE ⟨(.bin .eql 3), [(.fld (.var 8) 0), (.int .i64 (4))]⟩
 (.ite (.var 17)
 (.letE ⟨.mk, [(.var 13), (.var 14), (.var 15)]⟩
 (.call 110 [(.int .i64 (2)), (.var 18)] 2
 (.letE ⟨.atom, [(.var 19)]⟩
 (.jump 2 [(.fld (.var 20) 0), (.fld (.var 20) 1), (.fld (.var 20) 2), (.var 21)]))))
 (.letE ⟨(.bin .eql 3), [(.fld (.var 8) 0), (.int .i64 (2))]⟩
 (.ite (.var 18)
 (.letE ⟨(.bin .add 3), [(.var 0), (.int .i64 (1))]⟩
 (.letE ⟨.mk, [(.var 13), (.var 14), (.var 15)]⟩
 (.call 110 [(.var 19), (.var 20)] 2
 (.letE ⟨.mk, [(.fld (.var 22) 0), (.fld (.var 22) 1), (.fld (.var 22) 2)]⟩
 (.call 110 [(.int .i64 (2)), (.var 23)] 2
 (.letE ⟨(.bin .mul 3), [(.var 21), (.var 24)]⟩
 (.letE ⟨.atom, [(.var 26)]⟩
 (.jump 2 [(.fld (.var 25) 0), (.fld (.var 25) 1), (.fld (.var 25) 2), (.var 27)]))))))))
 (.label false
 (.ite (.var 19)
 (.letE ⟨.mk, [(.var 13), (.var 14), (.var 15)]⟩
 (.call 110 [(.int .i64 (4)), (.var 20)] 2
 (.letE ⟨(.bin .add 3), [(.int .i64 (1)), (.var 21)]⟩
 (.letE ⟨.atom, [(.var 23)]⟩
 (.letE ⟨(.bin .gtr 3), [(.var 0), (.int .i64 (0))]⟩
 (.ite (.var 25)
 (.letE ⟨.mk, [(.fld (.var 22) 0), (.fld (.var 22) 1), (.fld (.var 22) 2)]⟩
 (.call 110 [(.var 0), (.var 26)] 2
 (.letE ⟨(.bin .add 3), [(.int .i64 (1)), (.var 27)]⟩
 (.letE ⟨.atom, [(.var 29)]⟩
 (.jump 2 [(.fld (.var 28) 0), (.fld (.var 28) 1), (.fld (.var 28) 2), (.var 30)])))))
 (.jump 2 [(.fld (.var 22) 0), (.fld (.var 22) 1), (.fld (.var 22) 2), (.var 24)])))))))
 (.jump 2 [(.var 13), (.var 14), (.var 15), (.fld (.var 8) 3)]))
 (.letE ⟨(.bin .eql 3), [(.fld (.var 8) 0), (.int .i64 (5))]⟩
 (.ite (.var 19)
 (.jump 3 [(.var 19)])
 (.letE ⟨(.bin .eql 3), [(.fld (.var 8) 0), (.int .i64 (6))]⟩
 (.ite (.var 20)
 (.jump 3 [(.var 20)])
 (.letE ⟨(.bin .eql 3), [(.fld (.var 8) 0), (.int .i64 (7))]⟩
 (.jump 3 [(.var 21)]))))))))))))
 (.label false
 (.ite (.var 13)
 (.letE ⟨.mk, [(.var 9), (.var 10), (.var 11)]⟩
 (.call 201 [(.var 14)] 2
 (.letE ⟨.atom, [(.var 15)]⟩
 (.jump 1 [(.fld (.var 16) 0), (.fld (.var 16) 1), (.fld (.var 16) 2), (.var 17)]))))
 (.jump 1 [(.var 9), (.var 10), (.var 11), (.fld (.var 8) 1)]))
 (.letE ⟨(.bin .neq 3), [(.fld (.var 8) 0), (.int .i64 (0))]⟩
 (.ite (.var 13)
 (.letE ⟨(.bin .neq 3), [(.fld (.var 8) 0), (.int .i64 (4))]⟩
 (.ite (.var 14)
 (.letE ⟨(.bin .neq 3), [(.fld (.var 8) 0), (.int .i64 (5))]⟩
 (.jump 2 [(.var 15)]))
 (.jump 2 [(.bool false)])))
 (.jump 2 [(.bool false)])))))
 (.label false
 (.ite (.var 9)
 (.letE ⟨.mk, [(.fld (.var 5) 0), (.fld (.var 5) 1), (.fld (.var 5) 2)]⟩
 (.call 200 [(.var 10)] 2
 (.letE ⟨.atom, [(.var 11)]⟩
 (.jump 0 [(.fld (.var 12) 0), (.fld (.var 12) 1), (.fld (.var 12) 2), (.var 13)]))))
 (.jump 0 [(.fld (.var 5) 0), (.fld (.var 5) 1), (.fld (.var 5) 2), (.fld (.var 8) 2)]))
 (.letE ⟨(.bin .eql 3), [(.fld (.var 8) 0), (.int .i64 (1))]⟩
 (.ite (.var 9)
 (.jump 1 [(.var 9)])
 (.letE ⟨(.bin .eql 3), [(.fld (.var 8) 0), (.int .i64 (2))]⟩
 (.ite (.var 10)
 (.jump 1 [(.var 10)])
 (.letE ⟨(.bin .eql 3), [(.fld (.var 8) 0), (.int .i64 (6))]⟩
 (.jump 1 [(.var 11)]))))))))))))))
/- loop.example/g00365/spec.l3drawItem -/
def sg125 : Sig := ⟨[.val], [((.pair (.int .i64) (.pair (.int .i64) (.pair (.int .i64) (.pair (.int .i64) (.pair (.sl (.int .u8)) (.pair (.sl (.int .u8)) (.pair (.int .i64) .unit))))))), (.pair .sh (.pair .sh (.pair .sh (.pair .sh (.pair (.own .sh) (.pair (.own .sh) .sh)))))))], false, some (0, .box (.pair (.sl (.int .u8)) (.pair (.int .i64) (.pair (.int .i64) .unit))) .sh .sh), false⟩
def hi125 : Hints := []
def ir125 : IR := (.letE ⟨.mk, [(.fld (.var 1) 0), (.fld (.var 1) 1), (.fld (.var 1) 2)]⟩
 (.call 110 [(.int .i64 (3)), (.var 2)] 2
 (.letE ⟨.mk, [(.fld (.var 4) 0), (.fld (.var 4) 1), (.fld (.var 4) 2)]⟩
 (.call 110 [(.int .i64 (5)), (.var 5)] 2
 (.letE ⟨(.bin .add 3), [(.int .i64 (1)), (.var 6)]⟩
 (.letE ⟨.mk, [(.fld (.var 7) 0), (.fld (.var 7) 1), (.fld (.var 7) 2)]⟩
 (.call 179 [(.int .i64 (5)), (.var 9)] 2
 (.letE ⟨.atom, [(.var 3)]⟩
 (.letE ⟨.atom, [(.var 8)]⟩
 (.letE ⟨(.all 4), [(.var 10)]⟩
 (.letE ⟨.mk, [(.var 12), (.var 13), (.fld (.var 14) 0), (.fld (.var 14) 1), (.fld (.var 14) 2), (.fld (.var 14) 3)]⟩
 (.letE ⟨.atom, [(.var 0)]⟩
 (.letE ⟨(.all 6), [(.var 15)]⟩
 (.letE ⟨.mk, [(.var 16), (.fld (.var 17) 0), (.fld (.var 17) 1), (.fld (.var 17) 2), (.fld (.var 17) 3), (.fld (.var 17) 4), (.fld (.var 17) 5)]⟩
 (.letE ⟨(.all 7), [(.var 18)]⟩
 (.letE ⟨.mk, [(.fld (.var 11) 0), (.fld (.var 11) 1), (.fld (.var 11) 2)]⟩
 (.call 109 [(.int .i64 (5)), (.var 20)] 2
 (.ite (.var 21)
 (.letE ⟨.atom, [(.int .i64 (-1))]⟩
 (.letE ⟨.mk, [(.var 23), (.int .i64 (0)), (.int .i64 (0)), (.nil (.int .u8)), (.nil (.int .u8)), (.int .i64 (0))]⟩
 (.letE ⟨(.all 6), [(.var 24)]⟩
 (.letE ⟨.mk, [(.fld (.var 19) 0), (.fld (.var 25) 0), (.fld (.var 25) 1), (.fld (.var 25) 2), (.fld (.var 25) 3), (.fld (.var 25) 4), (.fld (.var 25) 5)]⟩
 (.letE ⟨(.all 7), [(.var 26)]⟩
 (.letE ⟨.mk, [(.fld (.var 27) 0), (.fld (.var 27) 1), (.fld (.var 27) 2), (.fld (.var 27) 3), (.fld (.var 27) 4), (.fld (.var 27) 5), (.fld (.var 27) 6)]⟩
 (.letE ⟨.mk, [(.fld (.var 22) 0), (.fld (.var 22) 1), (.fld (.var 22) 2)]⟩
 (.ret [(.var 28), (.var 29)]))))))))
 (.letE ⟨.mk, [(.fld (.var 19) 0), (.fld (.var 19) 1), (.fld (.var 19) 2), (.fld (.var 19) 3), (.fld (.var 19) 4), (.fld (.var 19) 5), (.fld (.var 19) 6)]⟩
 (.letE ⟨(.all 7), [(.var 23)]⟩
 (.letE ⟨.mk, [(.fld (.var 24) 0), (.fld (.var 24) 1), (.fld (.var 24) 2), (.fld (.var 24) 3), (.fld (.var 24) 4), (.fld (.var 24) 5), (.fld (.var 24) 6)]⟩
 (.letE ⟨.mk, [(.fld (.var 22) 0), (.fld (.var 22) 1), (.fld (.var 22) 2)]⟩
 (.ret [(.var 25), (.var 26)])))))))))))))))))))))))
/- loop.example/g00365/spec.l3drawLog -/
def sg177 : Sig := ⟨[.val], [((.sl (.pair (.int .i64) (.pair (.int .i64) (.pair (.int .i64) (.pair (.int .i64) (.pair (.sl (.int .u8)) (.pair (.sl (.int .u8)) (.pair (.int .i64) .unit)))))))), (.own .sh))], false, some (0, .box (.pair (.sl (.int .u8)) (.pair (.int .i64) (.pair (.int .i64) .unit))) .sh .sh), false⟩
def hi177 : Hints := [((0, 4), ⟨[(6, .sh), (5, (.own .sh)), (7, .sh), (4, (.own .sh))], [((0, 0), .sh), ((0, 1), .sh), ((0, 2), .sh)], []⟩)]
def ir177 : IR := (.label true
 (.letE ⟨(.bin .lss 3), [(.var 4), (.var 0)]⟩
 (.ite (.var 9)
 (.letE ⟨.mk, [(.var 6), (.var 7), (.var 8)]⟩
 (.call 110 [(.int .i64 (4)), (.var 10)] 2
 (.letE ⟨(.bin .quo 3), [(.var 11), (.int .i64 (3))]⟩
 (.letE ⟨(.bin .add 3), [(.var 2), (.var 13)]⟩
 (.letE ⟨.mk, [(.fld (.var 12) 0), (.fld (.var 12) 1), (.fld (.var 12) 2)]⟩
 (.call 125 [(.var 14), (.var 15)] 2
 (.letE ⟨(.lst (.pair (.int .i64) (.pair (.int .i64) (.pair (.int .i64) (.pair (.int .i64) (.pair (.sl (.int .u8)) (.pair (.sl (.int .u8)) (.pair (.int .i64) .unit)))))))), [(.var 16)]⟩
 (.letE ⟨(.app (.pair (.int .i64) (.pair (.int .i64) (.pair (.int .i64) (.pair (.int .i64) (.pair (.sl (.int .u8)) (.pair (.sl (.int .u8)) (.pair (.int .i64) .unit)))))))), [(.var 3), (.var 18)]⟩
 (.letE ⟨(.bin .add 3), [(.var 4), (.int .i64 (1))]⟩
 (.jump 0 [(.var 14), (.var 19), (.var 20), (.var 5), (.fld (.var 17) 0), (.fld (.var 17) 1), (.fld (.var 17) 2)]))))))))))
 (.letE ⟨.mk, [(.var 6), (.var 7), (.var 8)]⟩
 (.ret [(.var 3), (.var 10)]))))
 (.jump 0 [(.int .i64 (1)), (.nil (.pair (.int .i64) (.pair (.int .i64) (.pair (.int .i64) (.pair (.int .i64) (.pair (.sl (.int .u8)) (.pair (.sl (.int .u8)) (.pair (.int .i64) .unit)))))))), (.int .i64 (0)), (.nil (.pair (.int .i64) (.pair (.int .i64) (.pair (.int .i64) (.pair (.int .i64) (.pair (.sl (.int .u8)) (.pair (.sl (.int .u8)) (.pair (.int .i64) .unit)))))))), (.fld (.var 1) 0), (.fld (.var 1) 1), (.fld (.var 1) 2)]))
/- loop.example/g00365/spec.l4node -/
def sg124 : Sig := ⟨[.val], [((.pair (.int .i64) (.pair (.int .i64) (.pair (.int .i64) (.pair (.sl (.pair (.int .i64) (.pair (.int .i64) (.pair (.int .i64) (.pair (.int .i64) (.pair (.sl (.int .u8)) (.pair (.sl (.int .u8)) (.pair (.int .i64) .unit)))))))) (.pair (.int .i64) (.pair (.int .i64) (.pair (.int .i64) (.pair (.int .i64) (.pair (.sl .bool) (.pair (.sl (.int .i64)) (.pair (.sl (.int .i64)) .unit))))))))))), (.pair .sh (.pair .sh (.pair .sh (.pair (.own .sh) (.pair .sh (.pair .sh (.pair .sh (.pair .sh (.pair (.own .sh) (.pair (.own .sh) (.pair (.own .sh) .sh))))))))))))], false, some (0, .box (.pair (.sl (.int .u8)) (.pair (.int .i64) (.pair (.int .i64) .unit))) .sh .sh), false⟩
def hi124 : Hints := [((1, 32), ⟨[], [((0, 0), .sh), ((0, 1), .sh), ((0, 2), .sh), ((4, 0), .sh), ((4, 1), .sh), ((4, 2), .sh), ((4, 3), (.own .sh)), ((4, 4), .sh), ((4, 5), .sh), ((4, 6), .sh), ((4, 7), .sh), ((4, 8), (.own .sh)), ((4, 9), (.own .sh)), ((4, 10), (.own .sh)), ((5, 0), .sh), ((5, 1), .sh), ((5, 2), .sh), ((5, 3), (.own .sh)), ((5, 4), .sh), ((5, 5), .sh), ((5, 6), .sh), ((5, 7), .sh), ((5, 8), (.own .sh)), ((5, 9), (.own .sh)), ((5, 10), (.own .sh))], [7, 50, 51, 52, 53, 54, 55, 56, 57, 58, 59, 60, 61, 62, 63, 64, 65, 66, 67, 68, 69, 70, 71, 74, 75, 76, 77, 78, 79, 80, 81, 82, 83, 84, 85, 86, 87, 88]⟩), ((1, 27), ⟨[], [((0, 0), .sh), ((0, 1), .sh), ((0, 2), .sh), ((5, 9), (.own .sh)), ((5, 10), (.own .sh))], [91, 92, 93, 94, 95, 96, 97, 98, 99, 100, 101, 102, 103, 104, 105, 106, 107, 108, 109, 110, 111, 112, 113, 114, 115, 116, 117, 118, 119]⟩), ((0, 26), ⟨[(7, .sh)], [((0, 0), .sh), ((0, 1), .sh), ((0, 2), .sh), ((4, 0), .sh), ((4, 1), .sh), ((4, 2), .sh), ((4, 3), (.own .sh)), ((4, 4), .sh), ((4, 5), .sh), ((4, 6), .sh), ((4, 7), .sh), ((4, 8), (.own .sh)), ((4, 9), (.own .sh)), ((4, 10), (.own .sh)), ((5, 0), .sh), ((5, 1), .sh), ((5, 2), .sh), ((5, 3), (.own .sh)), ((5, 4), .sh), ((5, 5), .sh), ((5, 6), .sh), ((5, 7), .sh), ((5, 8), (.own .sh)), ((5, 9), (.own .sh)), ((5, 10), (.own .sh))], []⟩), ((1, 21), ⟨[(71, .sh)], [], [72, 73]⟩)]
def ir124 : IR := (.letE ⟨.mk, [(.fld (.var 1) 0), (.fld (.var 1) 1), (.fld (.var 1) 2)]⟩
 (.call 110 [(.var 0), (.var 2)] 2
 (.call 176 [(.var 3), (.var 0)] 1
 (.letE ⟨(.all 11), [(.var 5)]⟩
 (.letE ⟨.mk, [(.fld (.var 4) 0), (.fld (.var 4) 1), (.fld (.var 4) 2)]⟩
 (.call 110 [(.int .i64 (8)), (.var 7)] 2
 (.letE ⟨.mk, [(.fld (.var 9) 0), (.fld (.var 9) 1), (.fld (.var 9) 2)]⟩
 (.call 177 [(.var 8), (.var 10)] 2
 (.letE ⟨.atom, [(.var 11)]⟩
 (.letE ⟨.mk, [(.fld (.var 6) 0), (.fld (.var 6) 1), (.fld (.var 6) 2), (.var 13), (.fld (.var 6) 4), (.fld (.var 6) 5), (.fld (.var 6) 6), (.fld (.var 6) 7), (.fld (.var 6) 8), (.fld (.var 6) 9), (.fld (.var 6) 10)]⟩
 (.call 178 [(.var 8), (.var 14)] 2
 (.letE ⟨.mk, [(.fld (.var 12) 0), (.fld (.var 12) 1), (.fld (.var 12) 2)]⟩
 (.call 110 [(.int .i64 (3)), (.var 17)] 2
 (.letE ⟨(.bin .add 3), [(.var 15), (.var 18)]⟩
 (.letE ⟨.atom, [(.var 20)]⟩
 (.letE ⟨(.bin .add 3), [(.var 8), (.int .i64 (1))]⟩
 (.letE ⟨.mk, [(.fld (.var 19) 0), (.fld (.var 19) 1), (.fld (.var 19) 2)]⟩
 (.call 110 [(.var 22), (.var 23)] 2
 (.letE ⟨.atom, [(.var 24)]⟩
 (.letE ⟨.mk, [(.fld (.var 25) 0), (.fld (.var 25) 1), (.fld (.var 25) 2)]⟩
 (.call 110 [(.int .i64 (9)), (.var 27)] 2
 (.letE ⟨.atom, [(.var 28)]⟩
 (.letE ⟨(.bin .add 3), [(.var 0), (.int .i64 (1))]⟩
 (.letE ⟨.mk, [(.fld (.var 29) 0), (.fld (.var 29) 1), (.fld (.var 29) 2)]⟩
 (.call 110 [(.var 31), (.var 32)] 2
 (.letE ⟨(.bin .sub 3), [(.var 33), (.int .i64 (1))]⟩
 (.letE ⟨.atom, [(.var 35)]⟩
 (.letE ⟨(.bin .add 3), [(.var 0), (.int .i64 (1))]⟩
 (.letE ⟨.mk, [(.fld (.var 34) 0), (.fld (.var 34) 1), (.fld (.var 34) 2)]⟩
 (.call 110 [(.var 37), (.var 38)] 2
 (.letE ⟨(.bin .sub 3), [(.var 39), (.int .i64 (1))]⟩
 (.letE ⟨.atom, [(.var 41)]⟩
 (.letE ⟨(.bin .lss 3), [(.var 21), (.int .i64 (1))]⟩
 (.ite (.var 43)
 (.letE ⟨.atom, [(.int .i64 (-1))]⟩
 (.letE ⟨.mk, [(.fld (.var 16) 0), (.var 21), (.var 44), (.fld (.var 16) 3), (.var 26), (.fld (.var 16) 5), (.var 42), (.var 30), (.fld (.var 16) 8), (.fld (.var 16) 9), (.fld (.var 16) 10)]⟩
 (.letE ⟨(.all 11), [(.var 45)]⟩
 (.letE ⟨.mk, [(.fld (.var 46) 0), (.fld (.var 46) 1), (.fld (.var 46) 2), (.fld (.var 46) 3), (.fld (.var 46) 4), (.fld (.var 46) 5), (.fld (.var 46) 6), (.fld (.var 46) 7), (.fld (.var 46) 8), (.fld (.var 46) 9), (.fld (.var 46) 10)]⟩
 (.letE ⟨.mk, [(.fld (.var 40) 0), (.fld (.var 40) 1), (.fld (.var 40) 2)]⟩
 (.ret [(.var 47), (.var 48)]))))))
 (.label false
 (.letE ⟨.mk, [(.var 58), (.var 59), (.var 60), (.var 61), (.var 62), (.var 63), (.var 64), (.var 65), (.var 66), (.var 67), (.var 68)]⟩
 (.letE ⟨(.all 11), [(.var 69)]⟩
 (.letE ⟨.mk, [(.fld (.var 70) 0), (.fld (.var 70) 1), (.fld (.var 70) 2), (.fld (.var 70) 3), (.fld (.var 70) 4), (.fld (.var 70) 5), (.fld (.var 70) 6), (.fld (.var 70) 7), (.fld (.var 70) 8), (.fld (.var 70) 9), (.fld (.var 70) 10)]⟩
 (.letE ⟨.mk, [(.var 44), (.var 45), (.var 46)]⟩
 (.ret [(.var 71), (.var 72)])))))
 (.letE ⟨.mk, [(.fld (.var 40) 0), (.fld (.var 40) 1), (.fld (.var 40) 2)]⟩
 (.call 110 [(.int .i64 (4)), (.var 44)] 2
 (.letE ⟨(.bin .eql 3), [(.var 45), (.int .i64 (0))]⟩
 (.ite (.var 47)
 (.letE ⟨.atom, [(.int .i64 (1))]⟩
 (.letE ⟨.atom, [(.fld (.var 16) 0)]⟩
 (.letE ⟨.len, [(.fld (.var 16) 8)]⟩
 (.letE ⟨(.idx 1), [(.fld (.var 16) 8), (.fld (.var 16) 0)]⟩
 (.letE ⟨(.setE 1), [(.fld (.var 16) 8), (.fld (.var 16) 0), (.bool true)]⟩
 (.letE ⟨.mk, [(.fld (.var 46) 0), (.fld (.var 46) 1), (.fld (.var 46) 2)]⟩
 (.call 109 [(.int .i64 (2)), (.var 53)] 2
 (.ite (.var 54)
 (.letE ⟨.len, [(.var 52)]⟩
 (.letE ⟨.mk, [(.fld (.var 55) 0), (.fld (.var 55) 1), (.fld (.var 55) 2)]⟩
 (.call 110 [(.var 0), (.var 57)] 2
 (.letE ⟨(.idx 1), [(.var 52), (.var 58)]⟩
 (.letE ⟨(.setE 1), [(.var 52), (.var 58), (.bool true)]⟩
 (.jump 0 [(.fld (.var 59) 0), (.fld (.var 59) 1), (.fld (.var 59) 2), (.int .i64 (0)), (.int .i64 (0)), (.int .i64 (0)), (.nil (.pair (.int .i64) (.pair (.int .i64) (.pair (.int .i64) (.pair (.int .i64) (.pair (.sl (.int .u8)) (.pair (.sl (.int .u8)) (.pair (.int .i64) .unit)))))))), (.int .i64 (0)), (.int .i64 (0)), (.int .i64 (0)), (.int .i64 (0)), (.nil .bool), (.nil (.int .i64)), (.nil (.int .i64)), (.fld (.var 16) 0), (.var 21), (.var 49), (.fld (.var 16) 3), (.var 26), (.var 48), (.var 42), (.var 30), (.var 61), (.fld (.var 16) 9), (.fld (.var 16) 10)]))))))
 (.jump 0 [(.fld (.var 55) 0), (.fld (.var 55) 1), (.fld (.var 55) 2), (.int .i64 (0)), (.int .i64 (0)), (.int .i64 (0)), (.nil (.pair (.int .i64) (.pair (.int .i64) (.pair (.int .i64) (.pair (.int .i64) (.pair (.sl (.int .u8)) (.pair (.sl (.int .u8)) (.pair (.int .i64) .unit)))))))), (.int .i64 (0)), (.int .i64 (0)), (.int .i64 (0)), (.int .i64 (0)), (.nil .bool), (.nil (.int .i64)), (.nil (.int .i64)), (.fld (.var 16) 0), (.var 21), (.var 49), (.fld (.var 16) 3), (.var 26), (.var 48), (.var 42), (.var 30), (.var 52), (.fld (.var 16) 9), (.fld (.var 16) 10)])))))))))
 (.label false
 (.ite (.var 48)
 (.letE ⟨.atom, [(.int .i64 (2))]⟩
 (.letE ⟨.atom, [(.fld (.var 16) 0)]⟩
 (.letE ⟨.atom, [(.fld (.var 16) 0)]⟩
 (.letE ⟨.len, [(.fld (.var 16) 8)]⟩
 (.letE ⟨(.idx 1), [(.fld (.var 16) 8), (.fld (.var 16) 0)]⟩
 (.letE ⟨(.setE 1), [(.fld (.var 16) 8), (.fld (.var 16) 0), (.bool true)]⟩
 (.label true
 (.letE ⟨(.bin .lss 3), [(.var 55), (.var 0)]⟩
 (.ite (.var 81)
 (.label false
 (.letE ⟨(.bin .add 3), [(.var 55), (.int .i64 (1))]⟩
 (.jump 2 [(.var 87), (.var 82), (.var 83), (.var 84), (.var 59), (.var 60), (.var 61), (.var 62), (.var 63), (.var 64), (.var 65), (.var 66), (.var 67), (.var 68), (.var 69), (.var 70), (.var 71), (.var 72), (.var 73), (.var 74), (.var 75), (.var 76), (.var 77), (.var 78), (.var 85), (.var 86)]))
 (.letE ⟨.len, [(.var 80)]⟩
 (.letE ⟨(.bin .add 3), [(.var 8), (.int .i64 (1))]⟩
 (.letE ⟨.mk, [(.var 56), (.var 57), (.var 58)]⟩
 (.call 110 [(.var 83), (.var 84)] 2
 (.letE ⟨(.idx 1), [(.var 80), (.var 55)]⟩
 (.letE ⟨(.setE 1), [(.var 80), (.var 55), (.var 85)]⟩
 (.letE ⟨.len, [(.var 79)]⟩
 (.letE ⟨.len, [(.var 88)]⟩
 (.letE ⟨(.idx 1), [(.var 88), (.var 55)]⟩
 (.letE ⟨(.idx 1), [(.var 88), (.var 55)]⟩
 (.letE ⟨.a, [(.fld (.var 92) 0)]⟩
 (.letE ⟨(.bin .add 3), [(.var 93), (.int .i64 (1))]⟩
 (.letE ⟨(.idx 1), [(.var 79), (.var 55)]⟩
 (.letE ⟨(.setE 1), [(.var 79), (.var 55), (.var 94)]⟩
 (.letE ⟨.mk, [(.fld (.var 86) 0), (.fld (.var 86) 1), (.fld (.var 86) 2)]⟩
 (.call 109 [(.int .i64 (3)), (.var 97)] 2
 (.ite (.var 98)
 (.letE ⟨.len, [(.var 96)]⟩
 (.letE ⟨(.bin .add 3), [(.var 8), (.int .i64 (1))]⟩
 (.letE ⟨.mk, [(.fld (.var 99) 0), (.fld (.var 99) 1), (.fld (.var 99) 2)]⟩
 (.call 110 [(.var 101), (.var 102)] 2
 (.letE ⟨(.bin .add 3), [(.int .i64 (1)), (.var 103)]⟩
 (.letE ⟨(.idx 1), [(.var 96), (.var 55)]⟩
 (.letE ⟨(.setE 1), [(.var 96), (.var 55), (.var 105)]⟩
 (.jump 3 [(.fld (.var 104) 0), (.fld (.var 104) 1), (.fld (.var 104) 2), (.var 107), (.var 88)]))))))))
 (.jump 3 [(.fld (.var 99) 0), (.fld (.var 99) 1), (.fld (.var 99) 2), (.var 96), (.var 88)])))))))))))))))))))
 (.jump 0 [(.var 56), (.var 57), (.var 58), (.var 59), (.var 60), (.var 61), (.var 62), (.var 63), (.var 64), (.var 65), (.var 66), (.var 67), (.var 68), (.var 69), (.var 70), (.var 71), (.var 72), (.var 73), (.var 74), (.var 75), (.var 76), (.var 77), (.var 78), (.var 79), (.var 80)])))
 (.jump 2 [(.int .i64 (0)), (.fld (.var 46) 0), (.fld (.var 46) 1), (.fld (.var 46) 2), (.int .i64 (0)), (.int .i64 (0)), (.int .i64 (0)), (.nil (.pair (.int .i64) (.pair (.int .i64) (.pair (.int .i64) (.pair (.int .i64) (.pair (.sl (.int .u8)) (.pair (.sl (.int .u8)) (.pair (.int .i64) .unit)))))))), (.int .i64 (0)), (.int .i64 (0)), (.int .i64 (0)), (.int .i64 (0)), (.nil .bool), (.nil (.int .i64)), (.nil (.int .i64)), (.fld (.var 16) 0), (.var 21), (.var 50), (.fld (.var 16) 3), (.var 26), (.var 49), (.var 51), (.var 30), (.var 54), (.fld (.var 16) 9), (.fld (.var 16) 10)]))))))))
 (.jump 0 [(.fld (.var 46) 0), (.fld (.var 46) 1), (.fld (.var 46) 2), (.int .i64 (0)), (.int .i64 (0)), (.int .i64 (0)), (.nil (.pair (.int .i64) (.pair (.int .i64) (.pair (.int .i64) (.pair (.int .i64) (.pair (.sl (.int .u8)) (.pair (.sl (.int .u8)) (.pair (.int .i64) .unit)))))))), (.int .i64 (0)), (.int .i64 (0)), (.int .i64 (0)), (.int .i64 (0)), (.nil .bool), (.nil (.int .i64)), (.nil (.int .i64)), (.fld (.var 16) 0), (.var 21), (.var 36), (.fld (.var 16) 3), (.var 26), (.fld (.var 16) 5), (.var 42), (.var 30), (.fld (.var 16) 8), (.fld (.var 16) 9), (.fld (.var 16) 10)]))
 (.letE ⟨(.bin .eql 3), [(.var 45), (.int .i64 (1))]⟩
 (.ite (.var 48)
 (.jump 1 [(.var 48)])
 (.letE ⟨(.bin .eql 3), [(.var 45), (.int .i64 (2))]⟩
 (.jump 1 [(.var 49)]))))))))))))))))))))))))))))))))))))))))))))
/- loop.example/g00365/spec.l4bent -/
def sg65 : Sig := ⟨[.val], [((.pair (.int .i64) (.pair (.int .i64) (.pair (.int .i64) (.pair (.sl (.pair (.int .i64) (.pair (.int .i64) (.pair (.int .i64) (.pair (.int .i64) (.pair (.sl (.int .u8)) (.pair (.sl (.int .u8)) (.pair (.int .i64) .unit)))))))) (.pair (.int .i64) (.pair (.int .i64) (.pair (.int .i64) (.pair (.int .i64) (.pair (.sl .bool) (.pair (.sl (.int .i64)) (.pair (.sl (.int .i64)) .unit))))))))))), (.pair .sh (.pair .sh (.pair .sh (.pair (.own .sh) (.pair .sh (.pair .sh (.pair .sh (.pair .sh (.pair (.own .sh) (.pair (.own .sh) (.pair (.own .sh) .sh))))))))))))], false, some (0, .box (.pair (.sl (.int .u8)) (.pair (.int .i64) (.pair (.int .i64) .unit))) .sh .sh), false⟩
def hi65 : Hints := [((1, 25), ⟨[], [((0, 0), .sh), ((0, 1), .sh), ((0, 2), .sh), ((4, 0), .sh), ((4, 1), .sh), ((4, 2), .sh), ((4, 3), (.own .sh)), ((4, 4), .sh), ((4, 5), .sh), ((4, 6), .sh), ((4, 7), .sh), ((4, 8), (.own .sh)), ((4, 9), (.own .sh)), ((4, 10), (.own .sh)), ((5, 0), .sh), ((5, 1), .sh), ((5, 2), .sh), ((5, 3), (.own .sh)), ((5, 4), .sh), ((5, 5), .sh), ((5, 6), .sh), ((5, 7), .sh), ((5, 8), (.own .sh)), ((5, 9), (.own .sh)), ((5, 10), (.own .sh))], [13, 14, 15, 16, 17, 18, 19, 20, 21, 22, 23, 33, 34, 35, 36, 37, 38, 39, 40, 41, 42, 43, 44, 45, 46, 47, 48, 49, 50, 51, 52, 53, 54, 55, 56, 58, 59, 60, 61, 62, 63, 64, 65, 66, 67, 68, 69, 70, 71, 72, 73, 74, 75, 76, 77, 79, 81, 82, 83, 84, 85, 86, 87, 88, 89, 90, 91, 92, 94, 95, 96, 98]⟩), ((0, 5), ⟨[], [((0, 0), .sh), ((0, 1), .sh), ((0, 2), .sh), ((4, 0), .sh), ((4, 1), .sh), ((4, 2), .sh), ((4, 3), (.own .sh)), ((4, 4), .sh), ((4, 5), .sh), ((4, 6), .sh), ((4, 7), .sh), ((4, 8), (.own .sh)), ((4, 9), (.own .sh)), ((4, 10), (.own .sh)), ((5, 0), .sh), ((5, 1), .sh), ((5, 2), .sh), ((5, 3), (.own .sh)), ((5, 4), .sh), ((5, 5), .sh), ((5, 6), .sh), ((5, 7), .sh), ((5, 8), (.own .sh)), ((5, 9), (.own .sh)), ((5, 10), (.own .sh))], []⟩)]
def ir65 : IR := (.letE ⟨.mk, [(.fld (.var 1) 0), (.fld (.var 1) 1), (.fld (.var 1) 2)]⟩
 (.call 124 [(.var 0), (.var 2)] 2
 (.letE ⟨(.all 11), [(.var 3)]⟩
 (.letE ⟨.mk, [(.fld (.var 4) 0), (.fld (.var 4) 1), (.fld (.var 4) 2)]⟩
 (.call 109 [(.int .i64 (8)), (.var 6)] 2
 (.letE ⟨(.un .not), [(.var 7)]⟩
 (.ite (.var 9)
 (.letE ⟨.mk, [(.fld (.var 5) 0), (.fld (.var 5) 1), (.fld (.var 5) 2), (.fld (.var 5) 3), (.fld (.var 5) 4), (.fld (.var 5) 5), (.fld (.var 5) 6), (.fld (.var 5) 7), (.fld (.var 5) 8), (.fld (.var 5) 9), (.fld (.var 5) 10)]⟩
 (.letE ⟨(.all 11), [(.var 10)]⟩
 (.letE ⟨.mk, [(.fld (.var 11) 0), (.fld (.var 11) 1), (.fld (.var 11) 2), (.fld (.var 11) 3), (.fld (.var 11) 4), (.fld (.var 11) 5), (.fld (.var 11) 6), (.fld (.var 11) 7), (.fld (.var 11) 8), (.fld (.var 11) 9), (.fld (.var 11) 10)]⟩
 (.letE ⟨.mk, [(.fld (.var 8) 0), (.fld (.var 8) 1), (.fld (.var 8) 2)]⟩
 (.ret [(.var 12), (.var 13)])))))
 (.label false
 (.letE ⟨.mk, [(.var 24), (.var 25), (.var 26), (.var 27), (.var 28), (.var 29), (.var 30), (.var 31), (.var 32), (.var 33), (.var 34)]⟩
 (.letE ⟨(.all 11), [(.var 35)]⟩
 (.letE ⟨.mk, [(.fld (.var 36) 0), (.fld (.var 36) 1), (.fld (.var 36) 2), (.fld (.var 36) 3), (.fld (.var 36) 4), (.fld (.var 36) 5), (.fld (.var 36) 6), (.fld (.var 36) 7), (.fld (.var 36) 8), (.fld (.var 36) 9), (.fld (.var 36) 10)]⟩
 (.letE ⟨.mk, [(.var 10), (.var 11), (.var 12)]⟩
 (.ret [(.var 37), (.var 38)])))))
 (.letE ⟨.mk, [(.fld (.var 8) 0), (.fld (.var 8) 1), (.fld (.var 8) 2)]⟩
 (.call 110 [(.int .i64 (10)), (.var 10)] 2
 (.letE ⟨(.bin .eql 3), [(.var 11), (.int .i64 (0))]⟩
 (.ite (.var 13)
 (.letE ⟨(.lst (.int .i64)), [(.int .i64 (-1)), (.var 0), (.int .i64 (0))]⟩
 (.letE ⟨.mk, [(.fld (.var 12) 0), (.fld (.var 12) 1), (.fld (.var 12) 2)]⟩
 (.call 111 [(.var 14), (.var 15)] 2
 (.letE ⟨.atom, [(.var 16)]⟩
 (.jump 0 [(.fld (.var 17) 0), (.fld (.var 17) 1), (.fld (.var 17) 2), (.int .i64 (0)), (.int .i64 (0)), (.int .i64 (0)), (.nil (.pair (.int .i64) (.pair (.int .i64) (.pair (.int .i64) (.pair (.int .i64) (.pair (.sl (.int .u8)) (.pair (.sl (.int .u8)) (.pair (.int .i64) .unit)))))))), (.int .i64 (0)), (.int .i64 (0)), (.int .i64 (0)), (.int .i64 (0)), (.nil .bool), (.nil (.int .i64)), (.nil (.int .i64)), (.var 18), (.fld (.var 5) 1), (.fld (.var 5) 2), (.fld (.var 5) 3), (.fld (.var 5) 4), (.fld (.var 5) 5), (.fld (.var 5) 6), (.fld (.var 5) 7), (.fld (.var 5) 8), (.fld (.var 5) 9), (.fld (.var 5) 10)])))))
 (.letE ⟨(.bin .eql 3), [(.var 11), (.int .i64 (1))]⟩
 (.ite (.var 14)
 (.letE ⟨(.lst (.int .i64)), [(.int .i64 (-1)), (.int .i64 (0)), (.int .i64 (100000)), (.int .i64 (100001))]⟩
 (.letE ⟨.mk, [(.fld (.var 12) 0), (.fld (.var 12) 1), (.fld (.var 12) 2)]⟩
 (.call 111 [(.var 15), (.var 16)] 2
 (.letE ⟨.atom, [(.var 17)]⟩
 (.jump 0 [(.fld (.var 18) 0), (.fld (.var 18) 1), (.fld (.var 18) 2), (.int .i64 (0)), (.int .i64 (0)), (.int .i64 (0)), (.nil (.pair (.int .i64) (.pair (.int .i64) (.pair (.int .i64) (.pair (.int .i64) (.pair (.sl (.int .u8)) (.pair (.sl (.int .u8)) (.pair (.int .i64) .unit)))))))), (.int .i64 (0)), (.int .i64 (0)), (.int .i64 (0)), (.int .i64 (0)), (.nil .bool), (.nil (.int .i64)), (.nil (.int .i64)), (.fld (.var 5) 0), (.var 19), (.fld (.var 5) 2), (.fld (.var 5) 3), (.fld (.var 5) 4), (.fld (.var 5) 5), (.fld (.var 5) 6), (.fld (.var 5) 7), (.fld (.var 5) 8), (.fld (.var 5) 9), (.fld (.var 5) 10)])))))
 (.letE ⟨(.bin .eql 3), [(.var 11), (.int .i64 (2))]⟩
 (.ite (.var 15)
 (.letE ⟨(.lst (.int .i64)), [(.int .i64 (-2)), (.var 0), (.int .i64 (0))]⟩
 (.letE ⟨.mk, [(.fld (.var 12) 0), (.fld (.var 12) 1), (.fld (.var 12) 2)]⟩
 (.call 111 [(.var 16), (.var 17)] 2
 (.letE ⟨.atom, [(.var 18)]⟩
 (.jump 0 [(.fld (.var 19) 0), (.fld (.var 19) 1), (.fld (.var 19) 2), (.int .i64 (0)), (.int .i64 (0)), (.int .i64 (0)), (.nil (.pair (.int .i64) (.pair (.int .i64) (.pair (.int .i64) (.pair (.int .i64) (.pair (.sl (.int .u8)) (.pair (.sl (.int .u8)) (.pair (.int .i64) .unit)))))))), (.int .i64 (0)), (.int .i64 (0)), (.int .i64 (0)), (.int .i64 (0)), (.nil .bool), (.nil (.int .i64)), (.nil (.int .i64)), (.fld (.var 5) 0), (.fld (.var 5) 1), (.var 20), (.fld (.var 5) 3), (.fld (.var 5) 4), (.fld (.var 5) 5), (.fld (.var 5) 6), (.fld (.var 5) 7), (.fld (.var 5) 8), (.fld (.var 5) 9), (.fld (.var 5) 10)])))))
 (.letE ⟨(.bin .eql 3), [(.var 11), (.int .i64 (3))]⟩
 (.ite (.var 16)
 (.letE ⟨.len, [(.fld (.var 5) 3)]⟩
 (.letE ⟨(.bin .add 3), [(.var 17), (.int .i64 (1))]⟩
 (.letE ⟨(.lst (.int .i64)), [(.int .i64 (-1)), (.var 18)]⟩
 (.letE ⟨.mk, [(.fld (.var 12) 0), (.fld (.var 12) 1), (.fld (.var 12) 2)]⟩
 (.call 111 [(.var 19), (.var 20)] 2
 (.letE ⟨.atom, [(.var 21)]⟩
 (.jump 0 [(.fld (.var 22) 0), (.fld (.var 22) 1), (.fld (.var 22) 2), (.int .i64 (0)), (.int .i64 (0)), (.int .i64 (0)), (.nil (.pair (.int .i64) (.pair (.int .i64) (.pair (.int .i64) (.pair (.int .i64) (.pair (.sl (.int .u8)) (.pair (.sl (.int .u8)) (.pair (.int .i64) .unit)))))))), (.int .i64 (0)), (.int .i64 (0)), (.int .i64 (0)), (.int .i64 (0)), (.nil .bool), (.nil (.int .i64)), (.nil (.int .i64)), (.fld (.var 5) 0), (.fld (.var 5) 1), (.fld (.var 5) 2), (.fld (.var 5) 3), (.var 23), (.fld (.var 5) 5), (.fld (.var 5) 6), (.fld (.var 5) 7), (.fld (.var 5) 8), (.fld (.var 5) 9), (.fld (.var 5) 10)])))))))
 (.letE ⟨(.bin .eql 3), [(.var 11), (.int .i64 (4))]⟩
 (.ite (.var 17)
 (.letE ⟨.mk, [(.fld (.var 12) 0), (.fld (.var 12) 1), (.fld (.var 12) 2)]⟩
 (.call 110 [(.int .i64 (5)), (.var 18)] 2
 (.letE ⟨(.bin .sub 3), [(.var 19), (.int .i64 (1))]⟩
 (.letE ⟨.atom, [(.var 21)]⟩
 (.jump 0 [(.fld (.var 20) 0), (.fld (.var 20) 1), (.fld (.var 20) 2), (.int .i64 (0)), (.int .i64 (0)), (.int .i64 (0)), (.nil (.pair (.int .i64) (.pair (.int .i64) (.pair (.int .i64) (.pair (.int .i64) (.pair (.sl (.int .u8)) (.pair (.sl (.int .u8)) (.pair (.int .i64) .unit)))))))), (.int .i64 (0)), (.int .i64 (0)), (.int .i64 (0)), (.int .i64 (0)), (.nil .bool), (.nil (.int .i64)), (.nil (.int .i64)), (.fld (.var 5) 0), (.fld (.var 5) 1), (.fld (.var 5) 2), (.fld (.var 5) 3), (.fld (.var 5) 4), (.var 22), (.fld (.var 5) 6), (.fld (.var 5) 7), (.fld (.var 5) 8), (.fld (.var 5) 9), (.fld (.var 5) 10)])))))
 (.letE ⟨(.bin .eql 3), [(.var 11), (.int .i64 (5))]⟩
 (.ite (.var 18)
 (.letE ⟨(.lst (.int .i64)), [(.int .i64 (-1)), (.int .i64 (20)), (.int .i64 (21))]⟩
 (.letE ⟨.mk, [(.fld (.var 12) 0), (.fld (.var 12) 1), (.fld (.var 12) 2)]⟩
 (.call 111 [(.var 19), (.var 20)] 2
 (.letE ⟨.atom, [(.var 21)]⟩
 (.jump 0 [(.fld (.var 22) 0), (.fld (.var 22) 1), (.fld (.var 22) 2), (.int .i64 (0)), (.int .i64 (0)), (.int .i64 (0)), (.nil (.pair (.int .i64) (.pair (.int .i64) (.pair (.int .i64) (.pair (.int .i64) (.pair (.sl (.int .u8)) (.pair (.sl (.int .u8)) (.pair (.int .i64) .unit)))))))), (.int .i64 (0)), (.int .i64 (0)), (.int .i64 (0)), (.int .i64 (0)), (.nil .bool), (.nil (.int .i64)), (.nil (.int .i64)), (.fld (.var 5) 0), (.fld (.var 5) 1), (.fld (.var 5) 2), (.fld (.var 5) 3), (.fld (.var 5) 4), (.fld (.var 5) 5), (.fld (.var 5) 6), (.var 23), (.fld (.var 5) 8), (.fld (.var 5) 9), (.fld (.var 5) 10)])))))
 (.letE ⟨(.bin .eql 3), [(.var 11), (.int .i64 (6))]⟩
 (.ite (.var 19)
 (.letE ⟨.len, [(.fld (.var 5) 8)]⟩
 (.letE ⟨(.lst .bool), [(.bool true)]⟩
 (.letE ⟨(.app .bool), [(.fld (.var 5) 8), (.var 21)]⟩
 (.letE ⟨.atom, [(.var 22)]⟩
 (.jump 0 [(.fld (.var 12) 0), (.fld (.var 12) 1), (.fld (.var 12) 2), (.int .i64 (0)), (.int .i64 (0)), (.int .i64 (0)), (.nil (.pair (.int .i64) (.pair (.int .i64) (.pair (.int .i64) (.pair (.int .i64) (.pair (.sl (.int .u8)) (.pair (.sl (.int .u8)) (.pair (.int .i64) .unit)))))))), (.int .i64 (0)), (.int .i64 (0)), (.int .i64 (0)), (.int .i64 (0)), (.nil .bool), (.nil (.int .i64)), (.nil (.int .i64)), (.fld (.var 5) 0), (.fld (.var 5) 1), (.fld (.var 5) 2), (.fld (.var 5) 3), (.fld (.var 5) 4), (.fld (.var 5) 5), (.fld (.var 5) 6), (.fld (.var 5) 7), (.var 23), (.fld (.var 5) 9), (.fld (.var 5) 10)])))))
 (.letE ⟨(.bin .eql 3), [(.var 11), (.int .i64 (7))]⟩
 (.ite (.var 20)
 (.letE ⟨.len, [(.fld (.var 5) 9)]⟩
 (.letE ⟨(.lst (.int .i64)), [(.int .i64 (0)), (.int .i64 (-1)), (.int .i64 (1)), (.int .i64 (99))]⟩
 (.letE ⟨.mk, [(.fld (.var 12) 0), (.fld (.var 12) 1), (.fld (.var 12) 2)]⟩
 (.call 111 [(.var 22), (.var 23)] 2
 (.letE ⟨(.idx 1), [(.fld (.var 5) 9), (.int .i64 (0))]⟩
 (.letE ⟨(.setE 1), [(.fld (.var 5) 9), (.int .i64 (0)), (.var 24)]⟩
 (.jump 0 [(.fld (.var 25) 0), (.fld (.var 25) 1), (.fld (.var 25) 2), (.int .i64 (0)), (.int .i64 (0)), (.int .i64 (0)), (.nil (.pair (.int .i64) (.pair (.int .i64) (.pair (.int .i64) (.pair (.int .i64) (.pair (.sl (.int .u8)) (.pair (.sl (.int .u8)) (.pair (.int .i64) .unit)))))))), (.int .i64 (0)), (.int .i64 (0)), (.int .i64 (0)), (.int .i64 (0)), (.nil .bool), (.nil (.int .i64)), (.nil (.int .i64)), (.fld (.var 5) 0), (.fld (.var 5) 1), (.fld (.var 5) 2), (.fld (.var 5) 3), (.fld (.var 5) 4), (.fld (.var 5) 5), (.fld (.var 5) 6), (.fld (.var 5) 7), (.fld (.var 5) 8), (.var 27), (.fld (.var 5) 10)])))))))
 (.letE ⟨(.bin .eql 3), [(.var 11), (.int .i64 (8))]⟩
 (.ite (.var 21)
 (.letE ⟨.len, [(.fld (.var 5) 3)]⟩
 (.letE ⟨.mk, [(.fld (.var 12) 0), (.fld (.var 12) 1), (.fld (.var 12) 2)]⟩
 (.call 125 [(.int .i64 (1)), (.var 23)] 2
 (.letE ⟨(.lst (.pair (.int .i64) (.pair (.int .i64) (.pair (.int .i64) (.pair (.int .i64) (.pair (.sl (.int .u8)) (.pair (.sl (.int .u8)) (.pair (.int .i64) .unit)))))))), [(.var 24)]⟩
 (.letE ⟨(.app (.pair (.int .i64) (.pair (.int .i64) (.pair (.int .i64) (.pair (.int .i64) (.pair (.sl (.int .u8)) (.pair (.sl (.int .u8)) (.pair (.int .i64) .unit)))))))), [(.fld (.var 5) 3), (.var 26)]⟩
 (.letE ⟨.atom, [(.var 27)]⟩
 (.jump 0 [(.fld (.var 25) 0), (.fld (.var 25) 1), (.fld (.var 25) 2), (.int .i64 (0)), (.int .i64 (0)), (.int .i64 (0)), (.nil (.pair (.int .i64) (.pair (.int .i64) (.pair (.int .i64) (.pair (.int .i64) (.pair (.sl (.int .u8)) (.pair (.sl (.int .u8)) (.pair (.int .i64) .unit)))))))), (.int .i64 (0)), (.int .i64 (0)), (.int .i64 (0)), (.int .i64 (0)), (.nil .bool), (.nil (.int .i64)), (.nil (.int .i64)), (.fld (.var 5) 0), (.fld (.var 5) 1), (.fld (.var 5) 2), (.var 28), (.fld (.var 5) 4), (.fld (.var 5) 5), (.fld (.var 5) 6), (.fld (.var 5) 7), (.fld (.var 5) 8), (.fld (.var 5) 9), (.fld (.var 5) 10)])))))))
 (.label true
 (.letE ⟨.len, [(.var 39)]⟩
 (.letE ⟨.mk, [(.var 22), (.var 23), (.var 24)]⟩
 (.call 110 [(.int .i64 (2)), (.var 48)] 2
 (.letE ⟨(.bin .mul 3), [(.var 49), (.int .i64 (400))]⟩
 (.letE ⟨(.bin .quo 3), [(.var 51), (.int .i64 (2))]⟩
 (.letE ⟨(.bin .add 3), [(.int .i64 (200)), (.var 52)]⟩
 (.letE ⟨(.bin .lss 3), [(.var 47), (.var 53)]⟩
 (.ite (.var 54)
 (.letE ⟨.len, [(.var 39)]⟩
 (.letE ⟨.atom, [(.int .i64 (-1))]⟩
 (.letE ⟨.mk, [(.var 56), (.int .i64 (0)), (.int .i64 (0)), (.nil (.int .u8)), (.nil (.int .u8)), (.int .i64 (0))]⟩
 (.letE ⟨.atom, [(.var 37)]⟩
 (.letE ⟨(.all 6), [(.var 57)]⟩
 (.letE ⟨.mk, [(.var 58), (.fld (.var 59) 0), (.fld (.var 59) 1), (.fld (.var 59) 2), (.fld (.var 59) 3), (.fld (.var 59) 4), (.fld (.var 59) 5)]⟩
 (.letE ⟨(.lst (.pair (.int .i64) (.pair (.int .i64) (.pair (.int .i64) (.pair (.int .i64) (.pair (.sl (.int .u8)) (.pair (.sl (.int .u8)) (.pair (.int .i64) .unit)))))))), [(.var 60)]⟩
 (.letE ⟨(.app (.pair (.int .i64) (.pair (.int .i64) (.pair (.int .i64) (.pair (.int .i64) (.pair (.sl (.int .u8)) (.pair (.sl (.int .u8)) (.pair (.int .i64) .unit)))))))), [(.var 39), (.var 61)]⟩
 (.letE ⟨.atom, [(.var 62)]⟩
 (.jump 1 [(.fld (.var 50) 0), (.fld (.var 50) 1), (.fld (.var 50) 2), (.var 25), (.var 26), (.var 27), (.var 28), (.var 29), (.var 30), (.var 31), (.var 32), (.var 33), (.var 34), (.var 35), (.var 36), (.var 37), (.var 38), (.var 63), (.var 40), (.var 41), (.var 42), (.var 43), (.var 44), (.var 45), (.var 46)]))))))))))
 (.jump 0 [(.fld (.var 50) 0), (.fld (.var 50) 1), (.fld (.var 50) 2), (.var 25), (.var 26), (.var 27), (.var 28), (.var 29), (.var 30), (.var 31), (.var 32), (.var 33), (.var 34), (.var 35), (.var 36), (.var 37), (.var 38), (.var 39), (.var 40), (.var 41), (.var 42), (.var 43), (.var 44), (.var 45), (.var 46)])))))))))
 (.jump 1 [(.fld (.var 12) 0), (.fld (.var 12) 1), (.fld (.var 12) 2), (.int .i64 (0)), (.int .i64 (0)), (.int .i64 (0)), (.nil (.pair (.int .i64) (.pair (.int .i64) (.pair (.int .i64) (.pair (.int .i64) (.pair (.sl (.int .u8)) (.pair (.sl (.int .u8)) (.pair (.int .i64) .unit)))))))), (.int .i64 (0)), (.int .i64 (0)), (.int .i64 (0)), (.int .i64 (0)), (.nil .bool), (.nil (.int .i64)), (.nil (.int .i64)), (.fld (.var 5) 0), (.fld (.var 5) 1), (.fld (.var 5) 2), (.fld (.var 5) 3), (.fld (.var 5) 4), (.fld (.var 5) 5), (.fld (.var 5) 6), (.fld (.var 5) 7), (.fld (.var 5) 8), (.fld (.var 5) 9), (.fld (.var 5) 10)]))))))))))))))))))))))))))))))
/- (loop.example/g00365/impl.Node).entries -/
def sg202 : Sig := ⟨[.val, .val], [((.pair (.int .i64) (.pair (.int .i64) (.pair (.int .i64) (.pair (.int .i64) (.pair (.int .i64) (.pair (.int .i64) (.pair (.sl (.pair (.int .i64) (.pair (.int .i64) (.pair (.int .i64) (.pair (.int .i64) (.pair (.sl (.int .u8)) (.pair (.sl (.int .u8)) (.pair (.int .i64) .unit)))))))) (.pair (.int .i64) (.pair .bool .unit))))))))), (.pair .sh (.pair .sh (.pair .sh (.pair .sh (.pair .sh (.pair .sh (.pair (.own (.pair .sh (.pair .sh (.pair .sh (.pair .sh (.pair (.own .sh) (.pair (.own .sh) .sh))))))) .sh))))))))], true, none, false⟩
def hi202 : Hints := []
def ir202 : IR := (.letE ⟨(.all 11), [(.var 0)]⟩
 (.letE ⟨(.idx 1), [(.fld (.var 2) 9), (.var 1)]⟩
 (.letE ⟨.a, [(.fld (.var 3) 0)]⟩
 (.letE ⟨(.bin .sub 3), [(.var 4), (.int .i64 (1))]⟩
 (.letE ⟨.len, [(.fld (.var 2) 3)]⟩
 (.letE ⟨(.bin .add 3), [(.var 5), (.int .i64 (4))]⟩
 (.letE ⟨.mn, [(.var 6), (.var 7)]⟩
 (.letE ⟨(.sub 7 true true), [(.fld (.var 2) 3), (.var 5), (.var 8)]⟩
 (.letE ⟨.mk, [(.fld (.var 2) 0), (.fld (.var 2) 1), (.fld (.var 2) 2), (.fld (.var 2) 3), (.fld (.var 2) 4), (.fld (.var 2) 5), (.fld (.var 2) 6), (.fld (.var 2) 7), (.fld (.var 2) 8), (.fld (.var 2) 9), (.fld (.var 2) 10)]⟩
 (.call 182 [(.var 10), (.var 5)] 1
 (.call 54 [(.var 9)] 1
 (.letE ⟨.atom, [(.int .i64 (2))]⟩
 (.letE ⟨.atom, [(.fld (.var 2) 0)]⟩
 (.letE ⟨.atom, [(.var 1)]⟩
 (.letE ⟨.atom, [(.fld (.var 2) 1)]⟩
 (.letE ⟨.atom, [(.var 5)]⟩
 (.letE ⟨.atom, [(.var 11)]⟩
 (.letE ⟨.atom, [(.var 12)]⟩
 (.letE ⟨.atom, [(.fld (.var 2) 4)]⟩
 (.letE ⟨.mk, [(.var 13), (.var 14), (.var 15), (.var 16), (.var 17), (.var 18), (.var 19), (.var 20), (.bool false)]⟩
 (.letE ⟨(.all 9), [(.var 21)]⟩
 (.letE ⟨.mk, [(.fld (.var 22) 0), (.fld (.var 22) 1), (.fld (.var 22) 2), (.fld (.var 22) 3), (.fld (.var 22) 4), (.fld (.var 22) 5), (.fld (.var 22) 6), (.fld (.var 22) 7), (.fld (.var 22) 8)]⟩
 (.ret [(.var 23)])))))))))))))))))))))))
/- (*loop.example/g00365/impl.server).send -/
def sg184 : Sig := ⟨[.val], [], true, some (0, .box (.pair (.int .i64) (.pair (.int .i64) (.pair (.int .i64) (.pair (.sl (.pair (.int .i64) (.pair (.int .i64) (.pair (.int .i64) (.pair (.int .i64) (.pair (.sl (.int .u8)) (.pair (.sl (.int .u8)) (.pair (.int .i64) .unit)))))))) (.pair (.int .i64) (.pair (.int .i64) (.pair (.int .i64) (.pair (.int .i64) (.pair (.sl .bool) (.pair (.sl (.int .i64)) (.pair (.sl (.int .i64)) (.pair (.sl (.pair (.int .i64) (.pair (.int .i64) (.pair (.int .i64) (.pair (.int .i64) (.pair (.int .i64) (.pair (.int .i64) (.pair (.sl (.pair (.int .i64) (.pair (.int .i64) (.pair (.int .i64) (.pair (.int .i64) (.pair (.sl (.int .u8)) (.pair (.sl (.int .u8)) (.pair (.int .i64) .unit)))))))) (.pair (.int .i64) (.pair .bool .unit)))))))))) .unit)))))))))))) (.pair .sh (.pair .sh (.pair .sh (.pair (.own (.pair .sh (.pair .sh (.pair .sh (.pair .sh (.pair (.own .sh) (.pair (.own .sh) .sh))))))) (.pair .sh (.pair .sh (.pair .sh (.pair .sh (.pair (.own .sh) (.pair (.own .sh) (.pair (.own .sh) (.pair (.own (.pair .sh (.pair .sh (.pair .sh (.pair .sh (.pair .sh (.pair .sh (.pair (.own (.pair .sh (.pair .sh (.pair .sh (.pair .sh (.pair (.own .sh) (.pair (.own .sh) .sh))))))) .sh)))))))) .sh)))))))))))) (.pair .sh (.pair .sh (.pair .sh (.pair (.own (.pair .sh (.pair .sh (.pair .sh (.pair .sh (.pair (.own .sh) (.pair (.own .sh) .sh))))))) (.pair .sh (.pair .sh (.pair .sh (.pair .sh (.pair (.own .sh) (.pair (.own .sh) (.pair (.own .sh) (.pair (.own (.pair .sh (.pair .sh (.pair .sh (.pair .sh (.pair .sh (.pair .sh (.pair (.own (.pair .sh (.pair .sh (.pair .sh (.pair .sh (.pair (.own .sh) (.pair (.own .sh) .sh))))))) .sh)))))))) .sh))))))))))))), false⟩
def hi184 : Hints := []
def ir184 : IR := (.letE ⟨.len, [(.fld (.var 1) 11)]⟩
 (.letE ⟨.mk, [(.fld (.var 1) 0), (.fld (.var 1) 1), (.fld (.var 1) 2), (.fld (.var 1) 3), (.fld (.var 1) 4), (.fld (.var 1) 5), (.fld (.var 1) 6), (.fld (.var 1) 7), (.fld (.var 1) 8), (.fld (.var 1) 9), (.fld (.var 1) 10)]⟩
 (.call 202 [(.var 3), (.var 0)] 1
 (.letE ⟨(.lst (.pair (.int .i64) (.pair (.int .i64) (.pair (.int .i64) (.pair (.int .i64) (.pair (.int .i64) (.pair (.int .i64) (.pair (.sl (.pair (.int .i64) (.pair (.int .i64) (.pair (.int .i64) (.pair (.int .i64) (.pair (.sl (.int .u8)) (.pair (.sl (.int .u8)) (.pair (.int .i64) .unit)))))))) (.pair (.int .i64) (.pair .bool .unit)))))))))), [(.var 4)]⟩
 (.letE ⟨(.app (.pair (.int .i64) (.pair (.int .i64) (.pair (.int .i64) (.pair (.int .i64) (.pair (.int .i64) (.pair (.int .i64) (.pair (.sl (.pair (.int .i64) (.pair (.int .i64) (.pair (.int .i64) (.pair (.int .i64) (.pair (.sl (.int .u8)) (.pair (.sl (.int .u8)) (.pair (.int .i64) .unit)))))))) (.pair (.int .i64) (.pair .bool .unit)))))))))), [(.fld (.var 1) 11), (.var 5)]⟩
 (.letE ⟨.atom, [(.var 6)]⟩
 (.letE ⟨.mk, [(.fld (.var 1) 0), (.fld (.var 1) 1), (.fld (.var 1) 2), (.fld (.var 1) 3), (.fld (.var 1) 4), (.fld (.var 1) 5), (.fld (.var 1) 6), (.fld (.var 1) 7), (.fld (.var 1) 8), (.fld (.var 1) 9), (.fld (.var 1) 10), (.var 7)]⟩
 (.ret [(.var 8)]))))))))
/- (*loop.example/g00365/impl.server).sendAll -/
def sg133 : Sig := ⟨[], [], true, some (0, .box (.pair (.int .i64) (.pair (.int .i64) (.pair (.int .i64) (.pair (.sl (.pair (.int .i64) (.pair (.int .i64) (.pair (.int .i64) (.pair (.int .i64) (.pair (.sl (.int .u8)) (.pair (.sl (.int .u8)) (.pair (.int .i64) .unit)))))))) (.pair (.int .i64) (.pair (.int .i64) (.pair (.int .i64) (.pair (.int .i64) (.pair (.sl .bool) (.pair (.sl (.int .i64)) (.pair (.sl (.int .i64)) (.pair (.sl (.pair (.int .i64) (.pair (.int .i64) (.pair (.int .i64) (.pair (.int .i64) (.pair (.int .i64) (.pair (.int .i64) (.pair (.sl (.pair (.int .i64) (.pair (.int .i64) (.pair (.int .i64) (.pair (.int .i64) (.pair (.sl (.int .u8)) (.pair (.sl (.int .u8)) (.pair (.int .i64) .unit)))))))) (.pair (.int .i64) (.pair .bool .unit)))))))))) .unit)))))))))))) (.pair .sh (.pair .sh (.pair .sh (.pair (.own (.pair .sh (.pair .sh (.pair .sh (.pair .sh (.pair (.own .sh) (.pair (.own .sh) .sh))))))) (.pair .sh (.pair .sh (.pair .sh (.pair .sh (.pair (.own .sh) (.pair (.own .sh) (.pair (.own .sh) (.pair (.own (.pair .sh (.pair .sh (.pair .sh (.pair .sh (.pair .sh (.pair .sh (.pair (.own (.pair .sh (.pair .sh (.pair .sh (.pair .sh (.pair (.own .sh) (.pair (.own .sh) .sh))))))) .sh)))))))) .sh)))))))))))) (.pair .sh (.pair .sh (.pair .sh (.pair (.own (.pair .sh (.pair .sh (.pair .sh (.pair .sh (.pair (.own .sh) (.pair (.own .sh) .sh))))))) (.pair .sh (.pair .sh (.pair .sh (.pair .sh (.pair (.own .sh) (.pair (.own .sh) (.pair (.own .sh) (.pair (.own (.pair .sh (.pair .sh (.pair .sh (.pair .sh (.pair .sh (.pair .sh (.pair (.own (.pair .sh (.pair .sh (.pair .sh (.pair .sh (.pair (.own .sh) (.pair (.own .sh) .sh))))))) .sh)))))))) .sh))))))))))))), false⟩
def hi133 : Hints := [((0, 1), ⟨[(10, .sh), (8, (.own .sh))], [((0, 0), .sh), ((0, 1), .sh), ((0, 2), .sh), ((0, 3), (.own (.pair .sh (.pair .sh (.pair .sh (.pair .sh (.pair (.own .sh) (.pair (.own .sh) .sh)))))))), ((0, 4), .sh), ((0, 5), .sh), ((0, 6), .sh), ((0, 7), .sh), ((0, 8), (.own .sh)), ((0, 9), (.own .sh)), ((0, 10), (.own .sh)), ((0, 11), (.own (.pair .sh (.pair .sh (.pair .sh (.pair .sh (.pair .sh (.pair .sh (.pair (.own (.pair .sh (.pair .sh (.pair .sh (.pair .sh (.pair (.own .sh) (.pair (.own .sh) .sh))))))) .sh)))))))))], [7]⟩)]
def ir133 : IR := (.letE ⟨.mk, [(.fld (.var 0) 0), (.fld (.var 0) 1), (.fld (.var 0) 2), (.fld (.var 0) 3), (.fld (.var 0) 4), (.fld (.var 0) 5), (.fld (.var 0) 6), (.fld (.var 0) 7), (.fld (.var 0) 8), (.fld (.var 0) 9), (.fld (.var 0) 10)]⟩
 (.call 80 [(.var 1)] 1
 (.letE ⟨.len, [(.var 2)]⟩
 (.label true
 (.letE ⟨(.bin .lss 3), [(.var 4), (.var 3)]⟩
 (.ite (.var 18)
 (.letE ⟨(.idx 1), [(.var 5), (.var 4)]⟩
 (.letE ⟨(.idx 1), [(.var 5), (.var 4)]⟩
 (.letE ⟨.a, [(.fld (.var 20) 0)]⟩
 (.letE ⟨.mk, [(.var 6), (.var 7), (.var 8), (.var 9), (.var 10), (.var 11), (.var 12), (.var 13), (.var 14), (.var 15), (.var 16), (.var 17)]⟩
 (.call 184 [(.var 21), (.var 22)] 1
 (.letE ⟨(.bin .add 3), [(.var 4), (.int .i64 (1))]⟩
 (.jump 0 [(.var 24), (.var 5), (.fld (.var 23) 0), (.fld (.var 23) 1), (.fld (.var 23) 2), (.fld (.var 23) 3), (.fld (.var 23) 4), (.fld (.var 23) 5), (.fld (.var 23) 6), (.fld (.var 23) 7), (.fld (.var 23) 8), (.fld (.var 23) 9), (.fld (.var 23) 10), (.fld (.var 23) 11)])))))))
 (.letE ⟨.mk, [(.var 6), (.var 7), (.var 8), (.var 9), (.var 10), (.var 11), (.var 12), (.var 13), (.var 14), (.var 15), (.var 16), (.var 17)]⟩
 (.ret [(.var 19)]))))
 (.jump 0 [(.int .i64 (0)), (.var 2), (.fld (.var 0) 0), (.fld (.var 0) 1), (.fld (.var 0) 2), (.fld (.var 0) 3), (.fld (.var 0) 4), (.fld (.var 0) 5), (.fld (.var 0) 6), (.fld (.var 0) 7), (.fld (.var 0) 8), (.fld (.var 0) 9), (.fld (.var 0) 10), (.fld (.var 0) 11)])))))
/- (*loop.example/g00365/impl.server).propose -/
def sg69 : Sig := ⟨[.val], [(.bool, .sh)], true, some (0, .box (.pair (.int .i64) (.pair (.int .i64) (.pair (.int .i64) (.pair (.sl (.pair (.int .i64) (.pair (.int .i64) (.pair (.int .i64) (.pair (.int .i64) (.pair (.sl (.int .u8)) (.pair (.sl (.int .u8)) (.pair (.int .i64) .unit)))))))) (.pair (.int .i64) (.pair (.int .i64) (.pair (.int .i64) (.pair (.int .i64) (.pair (.sl .bool) (.pair (.sl (.int .i64)) (.pair (.sl (.int .i64)) (.pair (.sl (.pair (.int .i64) (.pair (.int .i64) (.pair (.int .i64) (.pair (.int .i64) (.pair (.int .i64) (.pair (.int .i64) (.pair (.sl (.pair (.int .i64) (.pair (.int .i64) (.pair (.int .i64) (.pair (.int .i64) (.pair (.sl (.int .u8)) (.pair (.sl (.int .u8)) (.pair (.int .i64) .unit)))))))) (.pair (.int .i64) (.pair .bool .unit)))))))))) .unit)))))))))))) (.pair .sh (.pair .sh (.pair .sh (.pair (.own (.pair .sh (.pair .sh (.pair .sh (.pair .sh (.pair (.own .sh) (.pair (.own .sh) .sh))))))) (.pair .sh (.pair .sh (.pair .sh (.pair .sh (.pair (.own .sh) (.pair (.own .sh) (.pair (.own .sh) (.pair (.own (.pair .sh (.pair .sh (.pair .sh (.pair .sh (.pair .sh (.pair .sh (.pair (.own (.pair .sh (.pair .sh (.pair .sh (.pair .sh (.pair (.own .sh) (.pair (.own .sh) .sh))))))) .sh)))))))) .sh)))))))))))) (.pair .sh (.pair .sh (.pair .sh (.pair (.own (.pair .sh (.pair .sh (.pair .sh (.pair .sh (.pair (.own .sh) (.pair (.own .sh) .sh))))))) (.pair .sh (.pair .sh (.pair .sh (.pair .sh (.pair (.own .sh) (.pair (.own .sh) (.pair (.own .sh) (.pair (.own (.pair .sh (.pair .sh (.pair .sh (.pair .sh (.pair .sh (.pair .sh (.pair (.own (.pair .sh (.pair .sh (.pair .sh (.pair .sh (.pair (.own .sh) (.pair (.own .sh) .sh))))))) .sh)))))))) .sh))))))))))))), false⟩
def hi69 : Hints := []
def ir69 : IR := (.letE ⟨(.all 6), [(.var 0)]⟩
 (.letE ⟨(.bin .neq 3), [(.fld (.var 1) 5), (.int .i64 (2))]⟩
 (.ite (.var 3)
 (.letE ⟨.mk, [(.fld (.var 1) 0), (.fld (.var 1) 1), (.fld (.var 1) 2), (.fld (.var 1) 3), (.fld (.var 1) 4), (.fld (.var 1) 5), (.fld (.var 1) 6), (.fld (.var 1) 7), (.fld (.var 1) 8), (.fld (.var 1) 9), (.fld (.var 1) 10), (.fld (.var 1) 11)]⟩
 (.ret [(.bool false), (.var 4)]))
 (.letE ⟨.len, [(.fld (.var 1) 3)]⟩
 (.letE ⟨(.bin .geq 3), [(.var 4), (.int .i64 (200))]⟩
 (.ite (.var 5)
 (.letE ⟨.mk, [(.fld (.var 1) 0), (.fld (.var 1) 1), (.fld (.var 1) 2), (.fld (.var 1) 3), (.fld (.var 1) 4), (.fld (.var 1) 5), (.fld (.var 1) 6), (.fld (.var 1) 7), (.fld (.var 1) 8), (.fld (.var 1) 9), (.fld (.var 1) 10), (.fld (.var 1) 11)]⟩
 (.ret [(.bool false), (.var 6)]))
 (.letE ⟨.len, [(.fld (.var 1) 3)]⟩
 (.letE ⟨.mk, [(.fld (.var 2) 0), (.fld (.var 2) 1), (.fld (.var 2) 2), (.fld (.var 2) 3), (.fld (.var 2) 4), (.fld (.var 2) 5)]⟩
 (.call 121 [(.var 7)] 1
 (.letE ⟨.atom, [(.fld (.var 1) 1)]⟩
 (.letE ⟨(.all 6), [(.var 8)]⟩
 (.letE ⟨.mk, [(.var 9), (.fld (.var 10) 0), (.fld (.var 10) 1), (.fld (.var 10) 2), (.fld (.var 10) 3), (.fld (.var 10) 4), (.fld (.var 10) 5)]⟩
 (.letE ⟨(.lst (.pair (.int .i64) (.pair (.int .i64) (.pair (.int .i64) (.pair (.int .i64) (.pair (.sl (.int .u8)) (.pair (.sl (.int .u8)) (.pair (.int .i64) .unit)))))))), [(.var 11)]⟩
 (.letE ⟨(.app (.pair (.int .i64) (.pair (.int .i64) (.pair (.int .i64) (.pair (.int .i64) (.pair (.sl (.int .u8)) (.pair (.sl (.int .u8)) (.pair (.int .i64) .unit)))))))), [(.fld (.var 1) 3), (.var 12)]⟩
 (.letE ⟨.atom, [(.var 13)]⟩
 (.letE ⟨.mk, [(.fld (.var 1) 0), (.fld (.var 1) 1), (.fld (.var 1) 2), (.var 14), (.fld (.var 1) 4), (.fld (.var 1) 5), (.fld (.var 1) 6), (.fld (.var 1) 7), (.fld (.var 1) 8), (.fld (.var 1) 9), (.fld (.var 1) 10), (.fld (.var 1) 11)]⟩
 (.call 132 [(.var 15)] 1
 (.letE ⟨.mk, [(.fld (.var 16) 0), (.fld (.var 16) 1), (.fld (.var 16) 2), (.fld (.var 16) 3), (.fld (.var 16) 4), (.fld (.var 16) 5), (.fld (.var 16) 6), (.fld (.var 16) 7), (.fld (.var 16) 8), (.fld (.var 16) 9), (.fld (.var 16) 10), (.fld (.var 16) 11)]⟩
 (.call 133 [(.var 17)] 1
 (.letE ⟨.mk, [(.fld (.var 18) 0), (.fld (.var 18) 1), (.fld (.var 18) 2), (.fld (.var 18) 3), (.fld (.var 18) 4), (.fld (.var 18) 5), (.fld (.var 18) 6), (.fld (.var 18) 7), (.fld (.var 18) 8), (.fld (.var 18) 9), (.fld (.var 18) 10), (.fld (.var 18) 11)]⟩
 (.ret [(.bool true), (.var 19)])))))))))))))))))))))
/- loop.example/g00365/impl.Propose -/
def sg17 : Sig := ⟨[.val, .val, .val], [((.pair (.int .i64) (.pair (.int .i64) (.pair (.int .i64) (.pair (.sl (.pair (.int .i64) (.pair (.int .i64) (.pair (.int .i64) (.pair (.int .i64) (.pair (.sl (.int .u8)) (.pair (.sl (.int .u8)) (.pair (.int .i64) .unit)))))))) (.pair (.int .i64) (.pair (.int .i64) (.pair (.int .i64) (.pair (.int .i64) (.pair (.sl .bool) (.pair (.sl (.int .i64)) (.pair (.sl (.int .i64)) .unit))))))))))), (.pair .sh (.pair .sh (.pair .sh (.pair (.own (.pair .sh (.pair .sh (.pair .sh (.pair .sh (.pair (.own .sh) (.pair (.own .sh) .sh))))))) (.pair .sh (.pair .sh (.pair .sh (.pair .sh (.pair (.own .sh) (.pair (.own .sh) (.pair (.own .sh) .sh)))))))))))), ((.sl (.pair (.int .i64) (.pair (.int .i64) (.pair (.int .i64) (.pair (.int .i64) (.pair (.int .i64) (.pair (.int .i64) (.pair (.sl (.pair (.int .i64) (.pair (.int .i64) (.pair (.int .i64) (.pair (.int .i64) (.pair (.sl (.int .u8)) (.pair (.sl (.int .u8)) (.pair (.int .i64) .unit)))))))) (.pair (.int .i64) (.pair .bool .unit)))))))))), (.own (.pair .sh (.pair .sh (.pair .sh (.pair .sh (.pair .sh (.pair .sh (.pair (.own (.pair .sh (.pair .sh (.pair .sh (.pair .sh (.pair (.own .sh) (.pair (.own .sh) .sh))))))) .sh))))))))), (.bool, .sh)], true, none, false⟩
def hi17 : Hints := []
def ir17 : IR := (.letE ⟨(.all 11), [(.var 0)]⟩
 (.letE ⟨(.all 6), [(.var 2)]⟩
 (.letE ⟨.mk, [(.fld (.var 3) 0), (.fld (.var 3) 1), (.fld (.var 3) 2), (.fld (.var 3) 3), (.fld (.var 3) 4), (.fld (.var 3) 5), (.fld (.var 3) 6), (.fld (.var 3) 7), (.fld (.var 3) 8), (.fld (.var 3) 9), (.fld (.var 3) 10)]⟩
 (.call 15 [(.var 5), (.var 1)] 1
 (.letE ⟨(.un .not), [(.var 6)]⟩
 (.ite (.var 7)
 (.letE ⟨.mk, [(.int .i64 (0)), (.int .i64 (0)), (.int .i64 (0)), (.nil (.pair (.int .i64) (.pair (.int .i64) (.pair (.int .i64) (.pair (.int .i64) (.pair (.sl (.int .u8)) (.pair (.sl (.int .u8)) (.pair (.int .i64) .unit)))))))), (.int .i64 (0)), (.int .i64 (0)), (.int .i64 (0)), (.int .i64 (0)), (.nil .bool), (.nil (.int .i64)), (.nil (.int .i64))]⟩
 (.letE ⟨(.all 11), [(.var 8)]⟩
 (.letE ⟨.mk, [(.fld (.var 9) 0), (.fld (.var 9) 1), (.fld (.var 9) 2), (.fld (.var 9) 3), (.fld (.var 9) 4), (.fld (.var 9) 5), (.fld (.var 9) 6), (.fld (.var 9) 7), (.fld (.var 9) 8), (.fld (.var 9) 9), (.fld (.var 9) 10)]⟩
 (.ret [(.var 10), (.nil (.pair (.int .i64) (.pair (.int .i64) (.pair (.int .i64) (.pair (.int .i64) (.pair (.int .i64) (.pair (.int .i64) (.pair (.sl (.pair (.int .i64) (.pair (.int .i64) (.pair (.int .i64) (.pair (.int .i64) (.pair (.sl (.int .u8)) (.pair (.sl (.int .u8)) (.pair (.int .i64) .unit)))))))) (.pair (.int .i64) (.pair .bool .unit)))))))))), (.bool false)]))))
 (.letE ⟨.mk, [(.fld (.var 4) 0), (.fld (.var 4) 1), (.fld (.var 4) 2), (.fld (.var 4) 3), (.fld (.var 4) 4), (.fld (.var 4) 5)]⟩
 (.call 67 [(.var 8)] 1
 (.letE ⟨(.un .not), [(.var 9)]⟩
 (.ite (.var 10)
 (.letE ⟨.mk, [(.int .i64 (0)), (.int .i64 (0)), (.int .i64 (0)), (.nil (.pair (.int .i64) (.pair (.int .i64) (.pair (.int .i64) (.pair (.int .i64) (.pair (.sl (.int .u8)) (.pair (.sl (.int .u8)) (.pair (.int .i64) .unit)))))))), (.int .i64 (0)), (.int .i64 (0)), (.int .i64 (0)), (.int .i64 (0)), (.nil .bool), (.nil (.int .i64)), (.nil (.int .i64))]⟩
 (.letE ⟨(.all 11), [(.var 11)]⟩
 (.letE ⟨.mk, [(.fld (.var 12) 0), (.fld (.var 12) 1), (.fld (.var 12) 2), (.fld (.var 12) 3), (.fld (.var 12) 4), (.fld (.var 12) 5), (.fld (.var 12) 6), (.fld (.var 12) 7), (.fld (.var 12) 8), (.fld (.var 12) 9), (.fld (.var 12) 10)]⟩
 (.ret [(.var 13), (.nil (.pair (.int .i64) (.pair (.int .i64) (.pair (.int .i64) (.pair (.int .i64) (.pair (.int .i64) (.pair (.int .i64) (.pair (.sl (.pair (.int .i64) (.pair (.int .i64) (.pair (.int .i64) (.pair (.int .i64) (.pair (.sl (.int .u8)) (.pair (.sl (.int .u8)) (.pair (.int .i64) .unit)))))))) (.pair (.int .i64) (.pair .bool .unit)))))))))), (.bool false)]))))
 (.letE ⟨.mk, [(.fld (.var 3) 0), (.fld (.var 3) 1), (.fld (.var 3) 2), (.fld (.var 3) 3), (.fld (.var 3) 4), (.fld (.var 3) 5), (.fld (.var 3) 6), (.fld (.var 3) 7), (.fld (.var 3) 8), (.fld (.var 3) 9), (.fld (.var 3) 10)]⟩
 (.call 68 [(.var 11)] 1
 (.letE ⟨(.all 11), [(.var 12)]⟩
 (.letE ⟨.mk, [(.fld (.var 13) 0), (.fld (.var 13) 1), (.fld (.var 13) 2), (.fld (.var 13) 3), (.fld (.var 13) 4), (.fld (.var 13) 5), (.fld (.var 13) 6), (.fld (.var 13) 7), (.fld (.var 13) 8), (.fld (.var 13) 9), (.fld (.var 13) 10), (.nil (.pair (.int .i64) (.pair (.int .i64) (.pair (.int .i64) (.pair (.int .i64) (.pair (.int .i64) (.pair (.int .i64) (.pair (.sl (.pair (.int .i64) (.pair (.int .i64) (.pair (.int .i64) (.pair (.int .i64) (.pair (.sl (.int .u8)) (.pair (.sl (.int .u8)) (.pair (.int .i64) .unit)))))))) (.pair (.int .i64) (.pair .bool .unit))))))))))]⟩
 (.letE ⟨(.all 12), [(.var 14)]⟩
 (.letE ⟨.mk, [(.fld (.var 4) 0), (.fld (.var 4) 1), (.fld (.var 4) 2), (.fld (.var 4) 3), (.fld (.var 4) 4), (.fld (.var 4) 5)]⟩
 (.letE ⟨.mk, [(.fld (.var 15) 0), (.fld (.var 15) 1), (.fld (.var 15) 2), (.fld (.var 15) 3), (.fld (.var 15) 4), (.fld (.var 15) 5), (.fld (.var 15) 6), (.fld (.var 15) 7), (.fld (.var 15) 8), (.fld (.var 15) 9), (.fld (.var 15) 10), (.fld (.var 15) 11)]⟩
 (.call 69 [(.var 16), (.var 17)] 2
 (.letE ⟨.len, [(.fld (.var 19) 11)]⟩
 (.letE ⟨.mk, [(.fld (.var 19) 0), (.fld (.var 19) 1), (.fld (.var 19) 2), (.fld (.var 19) 3), (.fld (.var 19) 4), (.fld (.var 19) 5), (.fld (.var 19) 6), (.fld (.var 19) 7), (.fld (.var 19) 8), (.fld (.var 19) 9), (.fld (.var 19) 10)]⟩
 (.letE ⟨(.all 11), [(.var 21)]⟩
 (.letE ⟨.mk, [(.fld (.var 22) 0), (.fld (.var 22) 1), (.fld (.var 22) 2), (.fld (.var 22) 3), (.fld (.var 22) 4), (.fld (.var 22) 5), (.fld (.var 22) 6), (.fld (.var 22) 7), (.fld (.var 22) 8), (.fld (.var 22) 9), (.fld (.var 22) 10)]⟩
 (.ret [(.var 23), (.fld (.var 19) 11), (.var 18)])))))))))))))))))))))))
/- loop.example/g00365/spec.l2bentOp -/
def sg126 : Sig := ⟨[], [((.pair (.int .i64) (.pair (.sl (.int .u8)) (.pair (.sl (.int .u8)) (.pair (.int .i64) .unit)))), (.pair .sh (.pair (.own .sh) (.pair (.own .sh) .sh))))], false, some (0, .box (.pair (.sl (.int .u8)) (.pair (.int .i64) (.pair (.int .i64) .unit))) .sh .sh), false⟩
def hi126 : Hints := []
def ir126 : IR := (.letE ⟨.mk, [(.fld (.var 0) 0), (.fld (.var 0) 1), (.fld (.var 0) 2)]⟩
 (.call 179 [(.int .i64 (6)), (.var 1)] 2
 (.letE ⟨(.all 4), [(.var 2)]⟩
 (.letE ⟨.mk, [(.fld (.var 3) 0), (.fld (.var 3) 1), (.fld (.var 3) 2)]⟩
 (.call 109 [(.int .i64 (6)), (.var 5)] 2
 (.ite (.var 6)
 (.letE ⟨.mk, [(.fld (.var 7) 0), (.fld (.var 7) 1), (.fld (.var 7) 2)]⟩
 (.call 110 [(.int .i64 (4)), (.var 8)] 2
 (.letE ⟨(.bin .eql 3), [(.var 9), (.int .i64 (0))]⟩
 (.ite (.var 11)
 (.letE ⟨(.lst (.int .i64)), [(.int .i64 (-1)), (.int .i64 (8)), (.int .i64 (0)), (.int .i64 (2))]⟩
 (.letE ⟨.mk, [(.fld (.var 10) 0), (.fld (.var 10) 1), (.fld (.var 10) 2)]⟩
 (.call 111 [(.var 12), (.var 13)] 2
 (.letE ⟨.atom, [(.var 14)]⟩
 (.letE ⟨.mk, [(.var 16), (.fld (.var 4) 1), (.fld (.var 4) 2), (.fld (.var 4) 3)]⟩
 (.letE ⟨(.all 4), [(.var 17)]⟩
 (.letE ⟨.mk, [(.fld (.var 18) 0), (.fld (.var 18) 1), (.fld (.var 18) 2), (.fld (.var 18) 3)]⟩
 (.letE ⟨.mk, [(.fld (.var 15) 0), (.fld (.var 15) 1), (.fld (.var 15) 2)]⟩
 (.ret [(.var 19), (.var 20)])))))))))
 (.letE ⟨(.bin .eql 3), [(.var 9), (.int .i64 (1))]⟩
 (.ite (.var 12)
 (.letE ⟨.len, [(.fld (.var 4) 1)]⟩
 (.letE ⟨(.lst (.int .u8)), [(.int .u8 (65))]⟩
 (.letE ⟨(.app (.int .u8)), [(.fld (.var 4) 1), (.var 14)]⟩
 (.letE ⟨.atom, [(.var 15)]⟩
 (.letE ⟨.mk, [(.fld (.var 4) 0), (.var 16), (.fld (.var 4) 2), (.fld (.var 4) 3)]⟩
 (.letE ⟨(.all 4), [(.var 17)]⟩
 (.letE ⟨.mk, [(.fld (.var 18) 0), (.fld (.var 18) 1), (.fld (.var 18) 2), (.fld (.var 18) 3)]⟩
 (.letE ⟨.mk, [(.fld (.var 10) 0), (.fld (.var 10) 1), (.fld (.var 10) 2)]⟩
 (.ret [(.var 19), (.var 20)])))))))))
 (.letE ⟨(.bin .eql 3), [(.var 9), (.int .i64 (2))]⟩
 (.ite (.var 13)
 (.letE ⟨.mk, [(.fld (.var 10) 0), (.fld (.var 10) 1), (.fld (.var 10) 2)]⟩
 (.call 110 [(.int .i64 (2)), (.var 14)] 2
 (.letE ⟨(.bin .add 3), [(.int .i64 (20)), (.var 15)]⟩
 (.letE ⟨(.rep (.int .u8)), [(.var 17), (.int .u8 (0))]⟩
 (.letE ⟨.atom, [(.var 18)]⟩
 (.letE ⟨.mk, [(.fld (.var 4) 0), (.fld (.var 4) 1), (.var 19), (.fld (.var 4) 3)]⟩
 (.letE ⟨(.all 4), [(.var 20)]⟩
 (.letE ⟨.mk, [(.fld (.var 21) 0), (.fld (.var 21) 1), (.fld (.var 21) 2), (.fld (.var 21) 3)]⟩
 (.letE ⟨.mk, [(.fld (.var 16) 0), (.fld (.var 16) 1), (.fld (.var 16) 2)]⟩
 (.ret [(.var 22), (.var 23)]))))))))))
 (.letE ⟨(.lst (.int .i64)), [(.int .i64 (-1)), (.int .i64 (0)), (.int .i64 (1)), (.int .i64 (2)), (.int .i64 (1000000)), (.int .i64 (1000001))]⟩
 (.letE ⟨.mk, [(.fld (.var 10) 0), (.fld (.var 10) 1), (.fld (.var 10) 2)]⟩
 (.call 111 [(.var 14), (.var 15)] 2
 (.letE ⟨.atom, [(.var 16)]⟩
 (.letE ⟨.mk, [(.fld (.var 4) 0), (.fld (.var 4) 1), (.fld (.var 4) 2), (.var 18)]⟩
 (.letE ⟨(.all 4), [(.var 19)]⟩
 (.letE ⟨.mk, [(.fld (.var 20) 0), (.fld (.var 20) 1), (.fld (.var 20) 2), (.fld (.var 20) 3)]⟩
 (.letE ⟨.mk, [(.fld (.var 17) 0), (.fld (.var 17) 1), (.fld (.var 17) 2)]⟩
 (.ret [(.var 21), (.var 22)])))))))))))))))))
 (.letE ⟨.mk, [(.fld (.var 4) 0), (.fld (.var 4) 1), (.fld (.var 4) 2), (.fld (.var 4) 3)]⟩
 (.letE ⟨(.all 4), [(.var 8)]⟩
 (.letE ⟨.mk, [(.fld (.var 9) 0), (.fld (.var 9) 1), (.fld (.var 9) 2), (.fld (.var 9) 3)]⟩
 (.letE ⟨.mk, [(.fld (.var 7) 0), (.fld (.var 7) 1), (.fld (.var 7) 2)]⟩
 (.ret [(.var 10), (.var 11)])))))))))))
/- loop.example/g00365/spec.l2bentCmd -/
def sg66 : Sig := ⟨[], [((.pair (.int .i64) (.pair (.int .i64) (.pair (.int .i64) (.pair (.sl (.int .u8)) (.pair (.sl (.int .u8)) (.pair (.int .i64) .unit)))))), (.pair .sh (.pair .sh (.pair .sh (.pair (.own .sh) (.pair (.own .sh) .sh))))))], false, some (0, .box (.pair (.sl (.int .u8)) (.pair (.int .i64) (.pair (.int .i64) .unit))) .sh .sh), false⟩
def hi66 : Hints := [((1, 8), ⟨[], [((0, 0), .sh), ((0, 1), .sh), ((0, 2), .sh), ((3, 0), .sh)], [21, 22, 23, 24, 25, 26]⟩), ((1, 6), ⟨[], [((0, 0), .sh), ((0, 1), .sh), ((0, 2), .sh), ((3, 1), .sh)], [15, 16, 17, 18, 19, 20]⟩), ((1, 4), ⟨[], [((0, 0), .sh), ((0, 1), .sh), ((0, 2), .sh), ((3, 0), .sh), ((3, 1), .sh), ((3, 2), .sh), ((3, 3), (.own .sh)), ((3, 4), (.own .sh)), ((3, 5), .sh)], [12, 13]⟩)]
def ir66 : IR := (.letE ⟨.mk, [(.fld (.var 0) 0), (.fld (.var 0) 1), (.fld (.var 0) 2)]⟩
 (.call 110 [(.int .i64 (4)), (.var 1)] 2
 (.letE ⟨.mk, [(.fld (.var 3) 0), (.fld (.var 3) 1), (.fld (.var 3) 2)]⟩
 (.call 110 [(.int .i64 (25)), (.var 4)] 2
 (.letE ⟨(.bin .add 3), [(.int .i64 (1)), (.var 5)]⟩
 (.letE ⟨.mk, [(.fld (.var 6) 0), (.fld (.var 6) 1), (.fld (.var 6) 2)]⟩
 (.call 126 [(.var 8)] 2
 (.letE ⟨.atom, [(.var 2)]⟩
 (.letE ⟨.atom, [(.var 7)]⟩
 (.letE ⟨(.all 4), [(.var 9)]⟩
 (.letE ⟨.mk, [(.var 11), (.var 12), (.fld (.var 13) 0), (.fld (.var 13) 1), (.fld (.var 13) 2), (.fld (.var 13) 3)]⟩
 (.letE ⟨(.all 6), [(.var 14)]⟩
 (.label false
 (.label false
 (.label false
 (.letE ⟨.mk, [(.var 32), (.var 28), (.var 21), (.var 22), (.var 23), (.var 24)]⟩
 (.letE ⟨(.all 6), [(.var 33)]⟩
 (.letE ⟨.mk, [(.fld (.var 34) 0), (.fld (.var 34) 1), (.fld (.var 34) 2), (.fld (.var 34) 3), (.fld (.var 34) 4), (.fld (.var 34) 5)]⟩
 (.letE ⟨.mk, [(.var 29), (.var 30), (.var 31)]⟩
 (.ret [(.var 35), (.var 36)])))))
 (.letE ⟨.mk, [(.var 25), (.var 26), (.var 27)]⟩
 (.call 109 [(.int .i64 (20)), (.var 29)] 2
 (.ite (.var 30)
 (.letE ⟨(.lst (.int .i64)), [(.int .i64 (-2)), (.int .i64 (-1)), (.int .i64 (3)), (.int .i64 (4))]⟩
 (.letE ⟨.mk, [(.fld (.var 31) 0), (.fld (.var 31) 1), (.fld (.var 31) 2)]⟩
 (.call 111 [(.var 32), (.var 33)] 2
 (.letE ⟨.atom, [(.var 34)]⟩
 (.jump 2 [(.fld (.var 35) 0), (.fld (.var 35) 1), (.fld (.var 35) 2), (.var 36)])))))
 (.jump 2 [(.fld (.var 31) 0), (.fld (.var 31) 1), (.fld (.var 31) 2), (.var 19)])))))
 (.letE ⟨.mk, [(.var 16), (.var 17), (.var 18)]⟩
 (.call 109 [(.int .i64 (10)), (.var 25)] 2
 (.ite (.var 26)
 (.letE ⟨(.lst (.int .i64)), [(.int .i64 (-1)), (.int .i64 (0)), (.int .i64 (1)), (.int .i64 (1000000)), (.int .i64 (1000001))]⟩
 (.letE ⟨.mk, [(.fld (.var 27) 0), (.fld (.var 27) 1), (.fld (.var 27) 2)]⟩
 (.call 111 [(.var 28), (.var 29)] 2
 (.letE ⟨.atom, [(.var 30)]⟩
 (.jump 1 [(.fld (.var 31) 0), (.fld (.var 31) 1), (.fld (.var 31) 2), (.var 32)])))))
 (.jump 1 [(.fld (.var 27) 0), (.fld (.var 27) 1), (.fld (.var 27) 2), (.var 20)])))))
 (.letE ⟨.mk, [(.fld (.var 10) 0), (.fld (.var 10) 1), (.fld (.var 10) 2)]⟩
 (.call 109 [(.int .i64 (8)), (.var 16)] 2
 (.ite (.var 17)
 (.letE ⟨.atom, [(.int .i64 (-1))]⟩
 (.letE ⟨.mk, [(.var 19), (.int .i64 (0)), (.int .i64 (0)), (.nil (.int .u8)), (.nil (.int .u8)), (.int .i64 (0))]⟩
 (.letE ⟨(.all 6), [(.var 20)]⟩
 (.jump 0 [(.fld (.var 18) 0), (.fld (.var 18) 1), (.fld (.var 18) 2), (.fld (.var 21) 0), (.fld (.var 21) 1), (.fld (.var 21) 2), (.fld (.var 21) 3), (.fld (.var 21) 4), (.fld (.var 21) 5)]))))
 (.jump 0 [(.fld (.var 18) 0), (.fld (.var 18) 1), (.fld (.var 18) 2), (.fld (.var 15) 0), (.fld (.var 15) 1), (.fld (.var 15) 2), (.fld (.var 15) 3), (.fld (.var 15) 4), (.fld (.var 15) 5)])))))))))))))))))
/- loop.example/g00365/spec.DrawPropose -/
def sg16 : Sig := ⟨[.val], [((.pair (.int .i64) (.pair (.int .i64) (.pair (.int .i64) (.pair (.sl (.pair (.int .i64) (.pair (.int .i64) (.pair (.int .i64) (.pair (.int .i64) (.pair (.sl (.int .u8)) (.pair (.sl (.int .u8)) (.pair (.int .i64) .unit)))))))) (.pair (.int .i64) (.pair (.int .i64) (.pair (.int .i64) (.pair (.int .i64) (.pair (.sl .bool) (.pair (.sl (.int .i64)) (.pair (.sl (.int .i64)) .unit))))))))))), .sh), ((.int .i64), .sh), ((.pair (.int .i64) (.pair (.int .i64) (.pair (.int .i64) (.pair (.sl (.int .u8)) (.pair (.sl (.int .u8)) (.pair (.int .i64) .unit)))))), .sh)], false, none, false⟩
def hi16 : Hints := []
def ir16 : IR := (.call 63 [(.var 0)] 1
 (.letE ⟨.mk, [(.fld (.var 1) 0), (.fld (.var 1) 1), (.fld (.var 1) 2)]⟩
 (.call 64 [(.var 2)] 2
 (.letE ⟨.mk, [(.fld (.var 4) 0), (.fld (.var 4) 1), (.fld (.var 4) 2)]⟩
 (.call 65 [(.var 3), (.var 5)] 2
 (.letE ⟨.mk, [(.fld (.var 7) 0), (.fld (.var 7) 1), (.fld (.var 7) 2)]⟩
 (.call 66 [(.var 8)] 2
 (.letE ⟨(.all 11), [(.var 6)]⟩
 (.letE ⟨(.all 6), [(.var 9)]⟩
 (.letE ⟨.mk, [(.fld (.var 11) 0), (.fld (.var 11) 1), (.fld (.var 11) 2), (.fld (.var 11) 3), (.fld (.var 11) 4), (.fld (.var 11) 5), (.fld (.var 11) 6), (.fld (.var 11) 7), (.fld (.var 11) 8), (.fld (.var 11) 9), (.fld (.var 11) 10)]⟩
 (.letE ⟨.mk, [(.fld (.var 12) 0), (.fld (.var 12) 1), (.fld (.var 12) 2), (.fld (.var 12) 3), (.fld (.var 12) 4), (.fld (.var 12) 5)]⟩
 (.ret [(.var 13), (.var 3), (.var 14)]))))))))))))
/- loop.example/g00365/laws.FnProposes -/
def sg4 : Sig := ⟨[.val], [(.bool, .sh)], true, none, false⟩
def hi4 : Hints := [((1, 4), ⟨[(31, .sh)], [], [23, 24, 25, 26, 27, 28, 29, 30]⟩)]
def ir4 : IR := (.call 16 [(.var 0)] 3
 (.letE ⟨(.all 11), [(.var 1)]⟩
 (.letE ⟨(.all 6), [(.var 3)]⟩
 (.letE ⟨.mk, [(.fld (.var 4) 0), (.fld (.var 4) 1), (.fld (.var 4) 2), (.fld (.var 4) 3), (.fld (.var 4) 4), (.fld (.var 4) 5), (.fld (.var 4) 6), (.fld (.var 4) 7), (.fld (.var 4) 8), (.fld (.var 4) 9), (.fld (.var 4) 10)]⟩
 (.letE ⟨.mk, [(.fld (.var 5) 0), (.fld (.var 5) 1), (.fld (.var 5) 2), (.fld (.var 5) 3), (.fld (.var 5) 4), (.fld (.var 5) 5)]⟩
 (.call 17 [(.var 6), (.var 2), (.var 7)] 3
 (.letE ⟨(.all 11), [(.var 8)]⟩
 (.label false
 (.ite (.var 12)
 (.letE ⟨(.un .not), [(.var 10)]⟩
 (.ite (.var 13)
 (.letE ⟨.len, [(.fld (.var 11) 8)]⟩
 (.letE ⟨(.bin .eql 3), [(.var 14), (.int .i64 (0))]⟩
 (.ret [(.var 15)])))
 (.ret [(.bool false)])))
 (.letE ⟨(.un .not), [(.var 10)]⟩
 (.ite (.var 13)
 (.letE ⟨.len, [(.var 9)]⟩
 (.letE ⟨(.bin .eql 3), [(.var 14), (.int .i64 (0))]⟩
 (.ite (.var 15)
 (.letE ⟨.len, [(.fld (.var 11) 3)]⟩
 (.letE ⟨.len, [(.fld (.var 4) 3)]⟩
 (.letE ⟨(.bin .eql 3), [(.var 16), (.var 17)]⟩
 (.ite (.var 18)
 (.letE ⟨(.bin .neq 3), [(.fld (.var 4) 5), (.int .i64 (2))]⟩
 (.ite (.var 19)
 (.ret [(.bool true)])
 (.letE ⟨.len, [(.fld (.var 4) 3)]⟩
 (.letE ⟨(.bin .geq 3), [(.var 20), (.int .i64 (200))]⟩
 (.ret [(.var 21)])))))
 (.ret [(.bool false)])))))
 (.ret [(.bool false)]))))
 (.letE ⟨.mk, [(.fld (.var 11) 0), (.fld (.var 11) 1), (.fld (.var 11) 2), (.fld (.var 11) 3), (.fld (.var 11) 4), (.fld (.var 11) 5), (.fld (.var 11) 6), (.fld (.var 11) 7), (.fld (.var 11) 8), (.fld (.var 11) 9), (.fld (.var 11) 10)]⟩
 (.call 15 [(.var 14), (.var 2)] 1
 (.ite (.var 15)
 (.letE ⟨(.bin .eql 3), [(.fld (.var 4) 5), (.int .i64 (2))]⟩
 (.ite (.var 16)
 (.letE ⟨.len, [(.fld (.var 11) 3)]⟩
 (.letE ⟨.len, [(.fld (.var 4) 3)]⟩
 (.letE ⟨(.bin .add 3), [(.var 18), (.int .i64 (1))]⟩
 (.letE ⟨(.bin .eql 3), [(.var 17), (.var 19)]⟩
 (.ite (.var 20)
 (.letE ⟨.len, [(.fld (.var 11) 3)]⟩
 (.letE ⟨.len, [(.fld (.var 4) 3)]⟩
 (.letE ⟨(.idx 7), [(.fld (.var 11) 3), (.var 22)]⟩
 (.letE ⟨(.idx 7), [(.fld (.var 11) 3), (.var 22)]⟩
 (.letE ⟨(.cells 1 6), [(.var 24)]⟩
 (.letE ⟨.mk, [(.fld (.var 5) 0), (.fld (.var 5) 1), (.fld (.var 5) 2), (.fld (.var 5) 3), (.fld (.var 5) 4), (.fld (.var 5) 5)]⟩
 (.call 19 [(.var 25), (.var 26)] 1
 (.ite (.var 27)
 (.letE ⟨.len, [(.var 9)]⟩
 (.letE ⟨(.bin .sub 3), [(.var 2), (.int .i64 (1))]⟩
 (.letE ⟨(.bin .eql 3), [(.var 28), (.var 29)]⟩
 (.ret [(.var 30)]))))
 (.ret [(.bool false)])))))))))
 (.ret [(.bool false)]))))))
 (.ret [(.bool false)])))
 (.ret [(.bool false)])))))))
 (.letE ⟨.mk, [(.fld (.var 4) 0), (.fld (.var 4) 1), (.fld (.var 4) 2), (.fld (.var 4) 3), (.fld (.var 4) 4), (.fld (.var 4) 5), (.fld (.var 4) 6), (.fld (.var 4) 7), (.fld (.var 4) 8), (.fld (.var 4) 9), (.fld (.var 4) 10)]⟩
 (.call 13 [(.var 12), (.var 2)] 1
 (.letE ⟨(.un .not), [(.var 13)]⟩
 (.ite (.var 14)
 (.jump 0 [(.bool true)])
 (.letE ⟨.mk, [(.fld (.var 5) 0), (.fld (.var 5) 1), (.fld (.var 5) 2), (.fld (.var 5) 3), (.fld (.var 5) 4), (.fld (.var 5) 5)]⟩
 (.call 18 [(.var 15)] 1
 (.letE ⟨(.un .not), [(.var 16)]⟩
 (.jump 0 [(.var 17)]))))))))))))))))
def Sn : Nat → Option Sig := fun n => match n with
  | _ => none
def Bn : Fns := fun n ds => match n with
  | _ => none
theorem nat : ∀ f s, Sn f = some s → Con Try.prog Bn f s := by
  intro f s h
  unfold Sn at h
  split at h
  · cases h
def T : Nat → Option (Sig × IR) := fun n => match n with
  | 52 => some (sg52, ir52)
  | 71 => some (sg71, ir71)
  | 19 => some (sg19, ir19)
  | 136 => some (sg136, ir136)
  | 135 => some (sg135, ir135)
  | 134 => some (sg134, ir134)
  | 70 => some (sg70, ir70)
  | 18 => some (sg18, ir18)
  | 58 => some (sg58, ir58)
  | 57 => some (sg57, ir57)
  | 56 => some (sg56, ir56)
  | 55 => some (sg55, ir55)
  | 13 => some (sg13, ir13)
  | 80 => some (sg80, ir80)
  | 183 => some (sg183, ir183)
  | 131 => some (sg131, ir131)
  | 130 => some (sg130, ir130)
  | 161 => some (sg161, ir161)
  | 175 => some (sg175, ir175)
  | 121 => some (sg121, ir121)
  | 54 => some (sg54, ir54)
  | 68 => some (sg68, ir68)
  | 123 => some (sg123, ir123)
  | 62 => some (sg62, ir62)
  | 181 => some (sg181, ir181)
  | 199 => some (sg199, ir199)
  | 180 => some (sg180, ir180)
  | 127 => some (sg127, ir127)
  | 128 => some (sg128, ir128)
  | 60 => some (sg60, ir60)
  | 59 => some (sg59, ir59)
  | 178 => some (sg178, ir178)
  | 176 => some (sg176, ir176)
  | 167 => some (sg167, ir167)
  | 110 => some (sg110, ir110)
  | 111 => some (sg111, ir111)
  | 64 => some (sg64, ir64)
  | 63 => some (sg63, ir63)
  | 182 => some (sg182, ir182)
  | 132 => some (sg132, ir132)
  | 152 => some (sg152, ir152)
  | 129 => some (sg129, ir129)
  | 67 => some (sg67, ir67)
  | 122 => some (sg122, ir122)
  | 61 => some (sg61, ir61)
  | 15 => some (sg15, ir15)
  | 109 => some (sg109, ir109)
  | 201 => some (sg201, ir201)
  | 200 => some (sg200, ir200)
  | 179 => some (sg179, ir179)
  | 125 => some (sg125, ir125)
  | 177 => some (sg177, ir177)
  | 124 => some (sg124, ir124)
  | 65 => some (sg65, ir65)
  | 202 => some (sg202, ir202)
  | 184 => some (sg184, ir184)
  | 133 => some (sg133, ir133)
  | 69 => some (sg69, ir69)
  | 17 => some (sg17, ir17)
  | 126 => some (sg126, ir126)
  | 66 => some (sg66, ir66)
  | 16 => some (sg16, ir16)
  | 4 => some (sg4, ir4)
  | _ => none
noncomputable abbrev Lv (N k : Nat) : Fns := level Sn Bn T N k
def Cs : Nat → Option Sig := shapes Sn T
theorem t52 : fnIR Try.prog Cs hi52 Try.f52 sg52 = some ir52 := by kernel_rfl
theorem t71 : fnIR Try.prog Cs hi71 Try.f71 sg71 = some ir71 := by kernel_rfl
theorem t19 : fnIR Try.prog Cs hi19 Try.f19 sg19 = some ir19 := by kernel_rfl
theorem t136 : fnIR Try.prog Cs hi136 Try.f136 sg136 = some ir136 := by kernel_rfl
theorem t135 : fnIR Try.prog Cs hi135 Try.f135 sg135 = some ir135 := by kernel_rfl
theorem t134 : fnIR Try.prog Cs hi134 Try.f134 sg134 = some ir134 := by kernel_rfl
theorem t70 : fnIR Try.prog Cs hi70 Try.f70 sg70 = some ir70 := by kernel_rfl
theorem t18 : fnIR Try.prog Cs hi18 Try.f18 sg18 = some ir18 := by kernel_rfl
theorem t58 : fnIR Try.prog Cs hi58 Try.f58 sg58 = some ir58 := by kernel_rfl
theorem t57 : fnIR Try.prog Cs hi57 Try.f57 sg57 = some ir57 := by kernel_rfl
theorem t56 : fnIR Try.prog Cs hi56 Try.f56 sg56 = some ir56 := by kernel_rfl
theorem t55 : fnIR Try.prog Cs hi55 Try.f55 sg55 = some ir55 := by kernel_rfl
theorem t13 : fnIR Try.prog Cs hi13 Try.f13 sg13 = some ir13 := by kernel_rfl
theorem t80 : fnIR Try.prog Cs hi80 Try.f80 sg80 = some ir80 := by kernel_rfl
theorem t183 : fnIR Try.prog Cs hi183 Try.f183 sg183 = some ir183 := by kernel_rfl
theorem t131 : fnIR Try.prog Cs hi131 Try.f131 sg131 = some ir131 := by kernel_rfl
theorem t130 : fnIR Try.prog Cs hi130 Try.f130 sg130 = some ir130 := by kernel_rfl
theorem t161 : fnIR Try.prog Cs hi161 Try.f161 sg161 = some ir161 := by kernel_rfl
theorem t175 : fnIR Try.prog Cs hi175 Try.f175 sg175 = some ir175 := by kernel_rfl
theorem t121 : fnIR Try.prog Cs hi121 Try.f121 sg121 = some ir121 := by kernel_rfl
theorem t54 : fnIR Try.prog Cs hi54 Try.f54 sg54 = some ir54 := by kernel_rfl
theorem t68 : fnIR Try.prog Cs hi68 Try.f68 sg68 = some ir68 := by kernel_rfl
theorem t123 : fnIR Try.prog Cs hi123 Try.f123 sg123 = some ir123 := by kernel_rfl
theorem t62 : fnIR Try.prog Cs hi62 Try.f62 sg62 = some ir62 := by kernel_rfl
theorem t181 : fnIR Try.prog Cs hi181 Try.f181 sg181 = some ir181 := by kernel_rfl
theorem t199 : fnIR Try.prog Cs hi199 Try.f199 sg199 = some ir199 := by kernel_rfl
theorem t180 : fnIR Try.prog Cs hi180 Try.f180 sg180 = some ir180 := by kernel_rfl
theorem t127 : fnIR Try.prog Cs hi127 Try.f127 sg127 = some ir127 := by kernel_rfl
theorem t128 : fnIR Try.prog Cs hi128 Try.f128 sg128 = some ir128 := by kernel_rfl
theorem t60 : fnIR Try.prog Cs hi60 Try.f60 sg60 = some ir60 := by kernel_rfl
theorem t59 : fnIR Try.prog Cs hi59 Try.f59 sg59 = some ir59 := by kernel_rfl
theorem t178 : fnIR Try.prog Cs hi178 Try.f178 sg178 = some ir178 := by kernel_rfl
theorem t176 : fnIR Try.prog Cs hi176 Try.f176 sg176 = some ir176 := by kernel_rfl
theorem t167 : fnIR Try.prog Cs hi167 Try.f167 sg167 = some ir167 := by kernel_rfl
theorem t110 : fnIR Try.prog Cs hi110 Try.f110 sg110 = some ir110 := by kernel_rfl
theorem t111 : fnIR Try.prog Cs hi111 Try.f111 sg111 = some ir111 := by kernel_rfl
theorem t64 : fnIR Try.prog Cs hi64 Try.f64 sg64 = some ir64 := by kernel_rfl
theorem t63 : fnIR Try.prog Cs hi63 Try.f63 sg63 = some ir63 := by kernel_rfl
theorem t182 : fnIR Try.prog Cs hi182 Try.f182 sg182 = some ir182 := by kernel_rfl
theorem t132 : fnIR Try.prog Cs hi132 Try.f132 sg132 = some ir132 := by kernel_rfl
theorem t152 : fnIR Try.prog Cs hi152 Try.f152 sg152 = some ir152 := by kernel_rfl
theorem t129 : fnIR Try.prog Cs hi129 Try.f129 sg129 = some ir129 := by kernel_rfl
theorem t67 : fnIR Try.prog Cs hi67 Try.f67 sg67 = some ir67 := by kernel_rfl
theorem t122 : fnIR Try.prog Cs hi122 Try.f122 sg122 = some ir122 := by kernel_rfl
theorem t61 : fnIR Try.prog Cs hi61 Try.f61 sg61 = some ir61 := by kernel_rfl
theorem t15 : fnIR Try.prog Cs hi15 Try.f15 sg15 = some ir15 := by kernel_rfl
theorem t109 : fnIR Try.prog Cs hi109 Try.f109 sg109 = some ir109 := by kernel_rfl
theorem t201 : fnIR Try.prog Cs hi201 Try.f201 sg201 = some ir201 := by kernel_rfl
theorem t200 : fnIR Try.prog Cs hi200 Try.f200 sg200 = some ir200 := by kernel_rfl
theorem t179 : fnIR Try.prog Cs hi179 Try.f179 sg179 = some ir179 := by kernel_rfl
theorem t125 : fnIR Try.prog Cs hi125 Try.f125 sg125 = some ir125 := by kernel_rfl
theorem t177 : fnIR Try.prog Cs hi177 Try.f177 sg177 = some ir177 := by kernel_rfl
theorem t124 : fnIR Try.prog Cs hi124 Try.f124 sg124 = some ir124 := by kernel_rfl
theorem t65 : fnIR Try.prog Cs hi65 Try.f65 sg65 = some ir65 := by kernel_rfl
theorem t202 : fnIR Try.prog Cs hi202 Try.f202 sg202 = some ir202 := by kernel_rfl
theorem t184 : fnIR Try.prog Cs hi184 Try.f184 sg184 = some ir184 := by kernel_rfl
theorem t133 : fnIR Try.prog Cs hi133 Try.f133 sg133 = some ir133 := by kernel_rfl
theorem t69 : fnIR Try.prog Cs hi69 Try.f69 sg69 = some ir69 := by kernel_rfl
theorem t17 : fnIR Try.prog Cs hi17 Try.f17 sg17 = some ir17 := by kernel_rfl
theorem t126 : fnIR Try.prog Cs hi126 Try.f126 sg126 = some ir126 := by kernel_rfl
theorem t66 : fnIR Try.prog Cs hi66 Try.f66 sg66 = some ir66 := by kernel_rfl
theorem t16 : fnIR Try.prog Cs hi16 Try.f16 sg16 = some ir16 := by kernel_rfl
theorem t4 : fnIR Try.prog Cs hi4 Try.f4 sg4 = some ir4 := by kernel_rfl
theorem tab : ∀ f s ir, T f = some (s, ir) → ∃ fn H, Try.prog.funcs[f]? = some fn ∧ fnIR Try.prog (shapes Sn T) H fn s = some ir := by
  intro f s ir h
  unfold T at h
  split at h
  · simp only [Option.some.injEq, Prod.mk.injEq] at h
    obtain ⟨rfl, rfl⟩ := h
    exact ⟨Try.f52, hi52, Try.func52, t52⟩
  · simp only [Option.some.injEq, Prod.mk.injEq] at h
    obtain ⟨rfl, rfl⟩ := h
    exact ⟨Try.f71, hi71, Try.func71, t71⟩
  · simp only [Option.some.injEq, Prod.mk.injEq] at h
    obtain ⟨rfl, rfl⟩ := h
    exact ⟨Try.f19, hi19, Try.func19, t19⟩
  · simp only [Option.some.injEq, Prod.mk.injEq] at h
    obtain ⟨rfl, rfl⟩ := h
    exact ⟨Try.f136, hi136, Try.func136, t136⟩
  · simp only [Option.some.injEq, Prod.mk.injEq] at h
    obtain ⟨rfl, rfl⟩ := h
    exact ⟨Try.f135, hi135, Try.func135, t135⟩
  · simp only [Option.some.injEq, Prod.mk.injEq] at h
    obtain ⟨rfl, rfl⟩ := h
    exact ⟨Try.f134, hi134, Try.func134, t134⟩
  · simp only [Option.some.injEq, Prod.mk.injEq] at h
    obtain ⟨rfl, rfl⟩ := h
    exact ⟨Try.f70, hi70, Try.func70, t70⟩
  · simp only [Option.some.injEq, Prod.mk.injEq] at h
    obtain ⟨rfl, rfl⟩ := h
    exact ⟨Try.f18, hi18, Try.func18, t18⟩
  · simp only [Option.some.injEq, Prod.mk.injEq] at h
    obtain ⟨rfl, rfl⟩ := h
    exact ⟨Try.f58, hi58, Try.func58, t58⟩
  · simp only [Option.some.injEq, Prod.mk.injEq] at h
    obtain ⟨rfl, rfl⟩ := h
    exact ⟨Try.f57, hi57, Try.func57, t57⟩
  · simp only [Option.some.injEq, Prod.mk.injEq] at h
    obtain ⟨rfl, rfl⟩ := h
    exact ⟨Try.f56, hi56, Try.func56, t56⟩
  · simp only [Option.some.injEq, Prod.mk.injEq] at h
    obtain ⟨rfl, rfl⟩ := h
    exact ⟨Try.f55, hi55, Try.func55, t55⟩
  · simp only [Option.some.injEq, Prod.mk.injEq] at h
    obtain ⟨rfl, rfl⟩ := h
    exact ⟨Try.f13, hi13, Try.func13, t13⟩
  · simp only [Option.some.injEq, Prod.mk.injEq] at h
    obtain ⟨rfl, rfl⟩ := h
    exact ⟨Try.f80, hi80, Try.func80, t80⟩
  · simp only [Option.some.injEq, Prod.mk.injEq] at h
    obtain ⟨rfl, rfl⟩ := h
    exact ⟨Try.f183, hi183, Try.func183, t183⟩
  · simp only [Option.some.injEq, Prod.mk.injEq] at h
    obtain ⟨rfl, rfl⟩ := h
    exact ⟨Try.f131, hi131, Try.func131, t131⟩
  · simp only [Option.some.injEq, Prod.mk.injEq] at h
    obtain ⟨rfl, rfl⟩ := h
    exact ⟨Try.f130, hi130, Try.func130, t130⟩
  · simp only [Option.some.injEq, Prod.mk.injEq] at h
    obtain ⟨rfl, rfl⟩ := h
    exact ⟨Try.f161, hi161, Try.func161, t161⟩
  · simp only [Option.some.injEq, Prod.mk.injEq] at h
    obtain ⟨rfl, rfl⟩ := h
    exact ⟨Try.f175, hi175, Try.func175, t175⟩
  · simp only [Option.some.injEq, Prod.mk.injEq] at h
    obtain ⟨rfl, rfl⟩ := h
    exact ⟨Try.f121, hi121, Try.func121, t121⟩
  · simp only [Option.some.injEq, Prod.mk.injEq] at h
    obtain ⟨rfl, rfl⟩ := h
    exact ⟨Try.f54, hi54, Try.func54, t54⟩
  · simp only [Option.some.injEq, Prod.mk.injEq] at h
    obtain ⟨rfl, rfl⟩ := h
    exact ⟨Try.f68, hi68, Try.func68, t68⟩
  · simp only [Option.some.injEq, Prod.mk.injEq] at h
    obtain ⟨rfl, rfl⟩ := h
    exact ⟨Try.f123, hi123, Try.func123, t123⟩
  · simp only [Option.some.injEq, Prod.mk.injEq] at h
    obtain ⟨rfl, rfl⟩ := h
    exact ⟨Try.f62, hi62, Try.func62, t62⟩
  · simp only [Option.some.injEq, Prod.mk.injEq] at h
    obtain ⟨rfl, rfl⟩ := h
    exact ⟨Try.f181, hi181, Try.func181, t181⟩
  · simp only [Option.some.injEq, Prod.mk.injEq] at h
    obtain ⟨rfl, rfl⟩ := h
    exact ⟨Try.f199, hi199, Try.func199, t199⟩
  · simp only [Option.some.injEq, Prod.mk.injEq] at h
    obtain ⟨rfl, rfl⟩ := h
    exact ⟨Try.f180, hi180, Try.func180, t180⟩
  · simp only [Option.some.injEq, Prod.mk.injEq] at h
    obtain ⟨rfl, rfl⟩ := h
    exact ⟨Try.f127, hi127, Try.func127, t127⟩
  · simp only [Option.some.injEq, Prod.mk.injEq] at h
    obtain ⟨rfl, rfl⟩ := h
    exact ⟨Try.f128, hi128, Try.func128, t128⟩
  · simp only [Option.some.injEq, Prod.mk.injEq] at h
    obtain ⟨rfl, rfl⟩ := h
    exact ⟨Try.f60, hi60, Try.func60, t60⟩
  · simp only [Option.some.injEq, Prod.mk.injEq] at h
    obtain ⟨rfl, rfl⟩ := h
    exact ⟨Try.f59, hi59, Try.func59, t59⟩
  · simp only [Option.some.injEq, Prod.mk.injEq] at h
    obtain ⟨rfl, rfl⟩ := h
    exact ⟨Try.f178, hi178, Try.func178, t178⟩
  · simp only [Option.some.injEq, Prod.mk.injEq] at h
    obtain ⟨rfl, rfl⟩ := h
    exact ⟨Try.f176, hi176, Try.func176, t176⟩
  · simp only [Option.some.injEq, Prod.mk.injEq] at h
    obtain ⟨rfl, rfl⟩ := h
    exact ⟨Try.f167, hi167, Try.func167, t167⟩
  · simp only [Option.some.injEq, Prod.mk.injEq] at h
    obtain ⟨rfl, rfl⟩ := h
    exact ⟨Try.f110, hi110, Try.func110, t110⟩
  · simp only [Option.some.injEq, Prod.mk.injEq] at h
    obtain ⟨rfl, rfl⟩ := h
    exact ⟨Try.f111, hi111, Try.func111, t111⟩
  · simp only [Option.some.injEq, Prod.mk.injEq] at h
    obtain ⟨rfl, rfl⟩ := h
    exact ⟨Try.f64, hi64, Try.func64, t64⟩
  · simp only [Option.some.injEq, Prod.mk.injEq] at h
    obtain ⟨rfl, rfl⟩ := h
    exact ⟨Try.f63, hi63, Try.func63, t63⟩
  · simp only [Option.some.injEq, Prod.mk.injEq] at h
    obtain ⟨rfl, rfl⟩ := h
    exact ⟨Try.f182, hi182, Try.func182, t182⟩
  · simp only [Option.some.injEq, Prod.mk.injEq] at h
    obtain ⟨rfl, rfl⟩ := h
    exact ⟨Try.f132, hi132, Try.func132, t132⟩
  · simp only [Option.some.injEq, Prod.mk.injEq] at h
    obtain ⟨rfl, rfl⟩ := h
    exact ⟨Try.f152, hi152, Try.func152, t152⟩
  · simp only [Option.some.injEq, Prod.mk.injEq] at h
    obtain ⟨rfl, rfl⟩ := h
    exact ⟨Try.f129, hi129, Try.func129, t129⟩
  · simp only [Option.some.injEq, Prod.mk.injEq] at h
    obtain ⟨rfl, rfl⟩ := h
    exact ⟨Try.f67, hi67, Try.func67, t67⟩
  · simp only [Option.some.injEq, Prod.mk.injEq] at h
    obtain ⟨rfl, rfl⟩ := h
    exact ⟨Try.f122, hi122, Try.func122, t122⟩
  · simp only [Option.some.injEq, Prod.mk.injEq] at h
    obtain ⟨rfl, rfl⟩ := h
    exact ⟨Try.f61, hi61, Try.func61, t61⟩
  · simp only [Option.some.injEq, Prod.mk.injEq] at h
    obtain ⟨rfl, rfl⟩ := h
    exact ⟨Try.f15, hi15, Try.func15, t15⟩
  · simp only [Option.some.injEq, Prod.mk.injEq] at h
    obtain ⟨rfl, rfl⟩ := h
    exact ⟨Try.f109, hi109, Try.func109, t109⟩
  · simp only [Option.some.injEq, Prod.mk.injEq] at h
    obtain ⟨rfl, rfl⟩ := h
    exact ⟨Try.f201, hi201, Try.func201, t201⟩
  · simp only [Option.some.injEq, Prod.mk.injEq] at h
    obtain ⟨rfl, rfl⟩ := h
    exact ⟨Try.f200, hi200, Try.func200, t200⟩
  · simp only [Option.some.injEq, Prod.mk.injEq] at h
    obtain ⟨rfl, rfl⟩ := h
    exact ⟨Try.f179, hi179, Try.func179, t179⟩
  · simp only [Option.some.injEq, Prod.mk.injEq] at h
    obtain ⟨rfl, rfl⟩ := h
    exact ⟨Try.f125, hi125, Try.func125, t125⟩
  · simp only [Option.some.injEq, Prod.mk.injEq] at h
    obtain ⟨rfl, rfl⟩ := h
    exact ⟨Try.f177, hi177, Try.func177, t177⟩
  · simp only [Option.some.injEq, Prod.mk.injEq] at h
    obtain ⟨rfl, rfl⟩ := h
    exact ⟨Try.f124, hi124, Try.func124, t124⟩
  · simp only [Option.some.injEq, Prod.mk.injEq] at h
    obtain ⟨rfl, rfl⟩ := h
    exact ⟨Try.f65, hi65, Try.func65, t65⟩
  · simp only [Option.some.injEq, Prod.mk.injEq] at h
    obtain ⟨rfl, rfl⟩ := h
    exact ⟨Try.f202, hi202, Try.func202, t202⟩
  · simp only [Option.some.injEq, Prod.mk.injEq] at h
    obtain ⟨rfl, rfl⟩ := h
    exact ⟨Try.f184, hi184, Try.func184, t184⟩
  · simp only [Option.some.injEq, Prod.mk.injEq] at h
    obtain ⟨rfl, rfl⟩ := h
    exact ⟨Try.f133, hi133, Try.func133, t133⟩
  · simp only [Option.some.injEq, Prod.mk.injEq] at h
    obtain ⟨rfl, rfl⟩ := h
    exact ⟨Try.f69, hi69, Try.func69, t69⟩
  · simp only [Option.some.injEq, Prod.mk.injEq] at h
    obtain ⟨rfl, rfl⟩ := h
    exact ⟨Try.f17, hi17, Try.func17, t17⟩
  · simp only [Option.some.injEq, Prod.mk.injEq] at h
    obtain ⟨rfl, rfl⟩ := h
    exact ⟨Try.f126, hi126, Try.func126, t126⟩
  · simp only [Option.some.injEq, Prod.mk.injEq] at h
    obtain ⟨rfl, rfl⟩ := h
    exact ⟨Try.f66, hi66, Try.func66, t66⟩
  · simp only [Option.some.injEq, Prod.mk.injEq] at h
    obtain ⟨rfl, rfl⟩ := h
    exact ⟨Try.f16, hi16, Try.func16, t16⟩
  · simp only [Option.some.injEq, Prod.mk.injEq] at h
    obtain ⟨rfl, rfl⟩ := h
    exact ⟨Try.f4, hi4, Try.func4, t4⟩
  · cases h
theorem con (N k f : Nat) (s : Sig) (h : shapes Sn T f = some s) : Con Try.prog (Lv N k) f s := level_con (by kernel_rfl) nat tab k f s h
end Go.Proofs.Ytecleaangfcloaa.VtFnProposes
