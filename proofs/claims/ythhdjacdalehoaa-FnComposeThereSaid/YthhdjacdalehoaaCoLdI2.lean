/-
  Where coercions lead: the kinds of the nodes.
-/
import Derived.Test.YthhdjacdalehoaaB10
import Derived.Deep.RegionHeld3
import Derived.Deep.QuietTactic
namespace Go.Proofs.Ythhdjacdalehoaa
open Go.RowKit
set_option linter.unusedVariables false
set_option linter.unusedSimpArgs false
set_option maxRecDepth 100000
def oLb0 : Oper := { dst := some 65, op := Op.fieldAddr 38 (Operand.tmp 4) 0, type := 0, pos := "l6_coercions.go:250", after := #[], guard := none }
def oLb1 : Oper := { dst := some 66, op := Op.load 3 (Operand.tmp 65), type := 3, pos := "l6_coercions.go:250", after := #[{ on := 0, ground := Ground.data }], guard := none }
def oLb2 : Oper := { dst := some 67, op := Op.binOp BinOp.eql 3 (Operand.tmp 66) (Operand.const (Value.int IntKind.i64 5)) 3, type := 4, pos := "l6_coercions.go:250", after := #[{ on := 1, ground := Ground.data }], guard := none }
def oLb3 : Oper := { dst := some 68, op := Op.move (Operand.tmp 67), type := 4, pos := "l6_coercions.go:250", after := #[{ on := 2, ground := Ground.data }], guard := none }
def oLb4 : Oper := { dst := some 69, op := Op.fieldAddr 38 (Operand.tmp 5) 0, type := 0, pos := "l6_coercions.go:250", after := #[{ on := 3, ground := Ground.guard }], guard := some (3, true) }
def oLb5 : Oper := { dst := some 70, op := Op.load 3 (Operand.tmp 69), type := 3, pos := "l6_coercions.go:250", after := #[{ on := 4, ground := Ground.data }, { on := 3, ground := Ground.guard }], guard := some (3, true) }
def oLb6 : Oper := { dst := some 71, op := Op.binOp BinOp.eql 3 (Operand.tmp 70) (Operand.const (Value.int IntKind.i64 5)) 3, type := 4, pos := "l6_coercions.go:250", after := #[{ on := 5, ground := Ground.data }, { on := 3, ground := Ground.guard }], guard := some (3, true) }
def oLb7 : Oper := { dst := some 72, op := Op.pick (Operand.tmp 68) (Operand.tmp 71) (Operand.const (Value.bool false)), type := 4, pos := "l6_coercions.go:250", after := #[{ on := 3, ground := Ground.data }, { on := 6, ground := Ground.data }], guard := none }
def oLb8 : Oper := { dst := some 73, op := Op.move (Operand.tmp 72), type := 4, pos := "l6_coercions.go:250", after := #[{ on := 7, ground := Ground.data }, { on := 3, ground := Ground.chain }], guard := none }
def oLb9 : Oper := { dst := some 74, op := Op.fieldAddr 28 (Operand.tmp 3) 3, type := 0, pos := "l6_coercions.go:250", after := #[{ on := 8, ground := Ground.guard }], guard := some (8, true) }
def oLb10 : Oper := { dst := some 75, op := Op.load 26 (Operand.tmp 74), type := 26, pos := "l6_coercions.go:250", after := #[{ on := 9, ground := Ground.data }, { on := 8, ground := Ground.guard }], guard := some (8, true) }
def oLb11 : Oper := { dst := some 76, op := Op.indexAddr 26 (Operand.tmp 75) (Operand.const (Value.int IntKind.i64 0)), type := 0, pos := "l6_coercions.go:250", after := #[{ on := 10, ground := Ground.data }, { on := 8, ground := Ground.guard }], guard := some (8, true) }
def oLb12 : Oper := { dst := some 77, op := Op.load 28 (Operand.tmp 76), type := 28, pos := "l6_coercions.go:250", after := #[{ on := 11, ground := Ground.data }, { on := 8, ground := Ground.guard }], guard := some (8, true) }
def oLb13 : Oper := { dst := some 78, op := Op.fieldAddr 38 (Operand.tmp 4) 1, type := 0, pos := "l6_coercions.go:250", after := #[{ on := 8, ground := Ground.guard }], guard := some (8, true) }
def oLb14 : Oper := { dst := some 79, op := Op.load 36 (Operand.tmp 78), type := 36, pos := "l6_coercions.go:250", after := #[{ on := 13, ground := Ground.data }, { on := 8, ground := Ground.guard }], guard := some (8, true) }
def oLb15 : Oper := { dst := some 80, op := Op.indexAddr 36 (Operand.tmp 79) (Operand.const (Value.int IntKind.i64 0)), type := 0, pos := "l6_coercions.go:250", after := #[{ on := 14, ground := Ground.data }, { on := 8, ground := Ground.guard }], guard := some (8, true) }
def oLb16 : Oper := { dst := some 81, op := Op.load 38 (Operand.tmp 80), type := 38, pos := "l6_coercions.go:250", after := #[{ on := 15, ground := Ground.data }, { on := 8, ground := Ground.guard }], guard := some (8, true) }
def oLb17 : Oper := { dst := some 82, op := Op.fieldAddr 38 (Operand.tmp 5) 1, type := 0, pos := "l6_coercions.go:250", after := #[{ on := 8, ground := Ground.guard }], guard := some (8, true) }
def oLb18 : Oper := { dst := some 83, op := Op.load 36 (Operand.tmp 82), type := 36, pos := "l6_coercions.go:250", after := #[{ on := 17, ground := Ground.data }, { on := 8, ground := Ground.guard }], guard := some (8, true) }
def oLb19 : Oper := { dst := some 84, op := Op.indexAddr 36 (Operand.tmp 83) (Operand.const (Value.int IntKind.i64 0)), type := 0, pos := "l6_coercions.go:250", after := #[{ on := 18, ground := Ground.data }, { on := 8, ground := Ground.guard }], guard := some (8, true) }
def oLb20 : Oper := { dst := some 85, op := Op.load 38 (Operand.tmp 84), type := 38, pos := "l6_coercions.go:250", after := #[{ on := 19, ground := Ground.data }, { on := 8, ground := Ground.guard }], guard := some (8, true) }
def oLb21 : Oper := { dst := some 86, op := Op.call { callee := Callee.value (Operand.func 40), args := #[Operand.tmp 77, Operand.tmp 81, Operand.tmp 85], argTypes := #[28, 38, 38] }, type := 4, pos := "l6_coercions.go:250", after := #[{ on := 12, ground := Ground.data }, { on := 16, ground := Ground.data }, { on := 20, ground := Ground.data }, { on := 8, ground := Ground.chain }, { on := 8, ground := Ground.guard }], guard := some (8, true) }
def oLb22 : Oper := { dst := some 87, op := Op.pick (Operand.tmp 73) (Operand.tmp 86) (Operand.const (Value.bool false)), type := 4, pos := "l6_coercions.go:250", after := #[{ on := 8, ground := Ground.data }, { on := 21, ground := Ground.data }], guard := none }
def oLb23 : Oper := { dst := some 88, op := Op.move (Operand.tmp 87), type := 4, pos := "l6_coercions.go:250", after := #[{ on := 22, ground := Ground.data }, { on := 21, ground := Ground.chain }], guard := none }
def oLb24 : Oper := { dst := some 89, op := Op.fieldAddr 28 (Operand.tmp 3) 3, type := 0, pos := "l6_coercions.go:250", after := #[{ on := 23, ground := Ground.guard }], guard := some (23, true) }
def oLb25 : Oper := { dst := some 90, op := Op.load 26 (Operand.tmp 89), type := 26, pos := "l6_coercions.go:250", after := #[{ on := 24, ground := Ground.data }, { on := 23, ground := Ground.guard }], guard := some (23, true) }
def oLb26 : Oper := { dst := some 91, op := Op.indexAddr 26 (Operand.tmp 90) (Operand.const (Value.int IntKind.i64 1)), type := 0, pos := "l6_coercions.go:250", after := #[{ on := 25, ground := Ground.data }, { on := 23, ground := Ground.guard }], guard := some (23, true) }
def oLb27 : Oper := { dst := some 92, op := Op.load 28 (Operand.tmp 91), type := 28, pos := "l6_coercions.go:250", after := #[{ on := 26, ground := Ground.data }, { on := 23, ground := Ground.guard }], guard := some (23, true) }
def oLb28 : Oper := { dst := some 93, op := Op.fieldAddr 38 (Operand.tmp 4) 1, type := 0, pos := "l6_coercions.go:250", after := #[{ on := 23, ground := Ground.guard }], guard := some (23, true) }
def oLb29 : Oper := { dst := some 94, op := Op.load 36 (Operand.tmp 93), type := 36, pos := "l6_coercions.go:250", after := #[{ on := 28, ground := Ground.data }, { on := 23, ground := Ground.guard }], guard := some (23, true) }
def oLb30 : Oper := { dst := some 95, op := Op.indexAddr 36 (Operand.tmp 94) (Operand.const (Value.int IntKind.i64 1)), type := 0, pos := "l6_coercions.go:250", after := #[{ on := 29, ground := Ground.data }, { on := 23, ground := Ground.guard }], guard := some (23, true) }
def oLb31 : Oper := { dst := some 96, op := Op.load 38 (Operand.tmp 95), type := 38, pos := "l6_coercions.go:250", after := #[{ on := 30, ground := Ground.data }, { on := 23, ground := Ground.guard }], guard := some (23, true) }
def oLb32 : Oper := { dst := some 97, op := Op.fieldAddr 38 (Operand.tmp 5) 1, type := 0, pos := "l6_coercions.go:250", after := #[{ on := 23, ground := Ground.guard }], guard := some (23, true) }
def oLb33 : Oper := { dst := some 98, op := Op.load 36 (Operand.tmp 97), type := 36, pos := "l6_coercions.go:250", after := #[{ on := 32, ground := Ground.data }, { on := 23, ground := Ground.guard }], guard := some (23, true) }
def oLb34 : Oper := { dst := some 99, op := Op.indexAddr 36 (Operand.tmp 98) (Operand.const (Value.int IntKind.i64 1)), type := 0, pos := "l6_coercions.go:250", after := #[{ on := 33, ground := Ground.data }, { on := 23, ground := Ground.guard }], guard := some (23, true) }
def oLb35 : Oper := { dst := some 100, op := Op.load 38 (Operand.tmp 99), type := 38, pos := "l6_coercions.go:250", after := #[{ on := 34, ground := Ground.data }, { on := 23, ground := Ground.guard }], guard := some (23, true) }
def oLb36 : Oper := { dst := some 101, op := Op.call { callee := Callee.value (Operand.func 40), args := #[Operand.tmp 92, Operand.tmp 96, Operand.tmp 100], argTypes := #[28, 38, 38] }, type := 4, pos := "l6_coercions.go:250", after := #[{ on := 27, ground := Ground.data }, { on := 31, ground := Ground.data }, { on := 35, ground := Ground.data }, { on := 23, ground := Ground.chain }, { on := 23, ground := Ground.guard }], guard := some (23, true) }
def oLb37 : Oper := { dst := some 102, op := Op.pick (Operand.tmp 88) (Operand.tmp 101) (Operand.const (Value.bool false)), type := 4, pos := "l6_coercions.go:250", after := #[{ on := 23, ground := Ground.data }, { on := 36, ground := Ground.data }], guard := none }
def oLb38 : Oper := { dst := some 6, op := Op.assign (Operand.tmp 102), type := 4, pos := "l6_coercions.go:250", after := #[{ on := 37, ground := Ground.data }, { on := 36, ground := Ground.chain }, { on := 0, ground := Ground.phase }, { on := 1, ground := Ground.phase }, { on := 2, ground := Ground.phase }, { on := 3, ground := Ground.phase }, { on := 4, ground := Ground.phase }, { on := 5, ground := Ground.phase }, { on := 6, ground := Ground.phase }, { on := 7, ground := Ground.phase }, { on := 8, ground := Ground.phase }, { on := 9, ground := Ground.phase }, { on := 10, ground := Ground.phase }, { on := 11, ground := Ground.phase }, { on := 12, ground := Ground.phase }, { on := 13, ground := Ground.phase }, { on := 14, ground := Ground.phase }, { on := 15, ground := Ground.phase }, { on := 16, ground := Ground.phase }, { on := 17, ground := Ground.phase }, { on := 18, ground := Ground.phase }, { on := 19, ground := Ground.phase }, { on := 20, ground := Ground.phase }, { on := 21, ground := Ground.phase }, { on := 22, ground := Ground.phase }, { on := 23, ground := Ground.phase }, { on := 24, ground := Ground.phase }, { on := 25, ground := Ground.phase }, { on := 26, ground := Ground.phase }, { on := 27, ground := Ground.phase }, { on := 28, ground := Ground.phase }, { on := 29, ground := Ground.phase }, { on := 30, ground := Ground.phase }, { on := 31, ground := Ground.phase }, { on := 32, ground := Ground.phase }, { on := 33, ground := Ground.phase }, { on := 34, ground := Ground.phase }, { on := 35, ground := Ground.phase }, { on := 36, ground := Ground.phase }, { on := 37, ground := Ground.phase }], guard := none }
def oLb39 : Oper := { dst := some 105, op := Op.fieldAddr 38 (Operand.tmp 5) 0, type := 0, pos := "l6_coercions.go:252", after := #[], guard := none }
def oLb40 : Oper := { dst := some 106, op := Op.load 3 (Operand.tmp 105), type := 3, pos := "l6_coercions.go:252", after := #[{ on := 0, ground := Ground.data }], guard := none }
def oLb41 : Oper := { dst := some 107, op := Op.binOp BinOp.eql 3 (Operand.tmp 106) (Operand.const (Value.int IntKind.i64 1)) 3, type := 4, pos := "l6_coercions.go:252", after := #[{ on := 1, ground := Ground.data }], guard := none }
def oLb42 : Oper := { dst := some 108, op := Op.move (Operand.tmp 107), type := 4, pos := "l6_coercions.go:252", after := #[{ on := 2, ground := Ground.data }], guard := none }
def oLb43 : Oper := { dst := some 109, op := Op.fieldAddr 38 (Operand.tmp 4) 0, type := 0, pos := "l6_coercions.go:252", after := #[{ on := 3, ground := Ground.guard }], guard := some (3, true) }
def oLb44 : Oper := { dst := some 110, op := Op.load 3 (Operand.tmp 109), type := 3, pos := "l6_coercions.go:252", after := #[{ on := 4, ground := Ground.data }, { on := 3, ground := Ground.guard }], guard := some (3, true) }
def oLb45 : Oper := { dst := some 111, op := Op.load 28 (Operand.tmp 3), type := 28, pos := "l6_coercions.go:252", after := #[{ on := 3, ground := Ground.guard }], guard := some (3, true) }
def oLb46 : Oper := { dst := some 112, op := Op.call { callee := Callee.value (Operand.func 48), args := #[Operand.tmp 111], argTypes := #[28] }, type := 3, pos := "l6_coercions.go:252", after := #[{ on := 6, ground := Ground.data }, { on := 3, ground := Ground.chain }, { on := 3, ground := Ground.guard }], guard := some (3, true) }
def oLb47 : Oper := { dst := some 113, op := Op.binOp BinOp.eql 3 (Operand.tmp 110) (Operand.tmp 112) 3, type := 4, pos := "l6_coercions.go:252", after := #[{ on := 5, ground := Ground.data }, { on := 7, ground := Ground.data }, { on := 3, ground := Ground.guard }], guard := some (3, true) }
def oLb48 : Oper := { dst := some 114, op := Op.pick (Operand.tmp 108) (Operand.tmp 113) (Operand.const (Value.bool false)), type := 4, pos := "l6_coercions.go:252", after := #[{ on := 3, ground := Ground.data }, { on := 8, ground := Ground.data }], guard := none }
def oLb49 : Oper := { dst := some 115, op := Op.move (Operand.tmp 114), type := 4, pos := "l6_coercions.go:252", after := #[{ on := 9, ground := Ground.data }, { on := 7, ground := Ground.chain }], guard := none }
def oLb50 : Oper := { dst := some 116, op := Op.fieldAddr 28 (Operand.tmp 3) 3, type := 0, pos := "l6_coercions.go:252", after := #[{ on := 10, ground := Ground.guard }], guard := some (10, true) }
def oLb51 : Oper := { dst := some 117, op := Op.load 26 (Operand.tmp 116), type := 26, pos := "l6_coercions.go:252", after := #[{ on := 11, ground := Ground.data }, { on := 10, ground := Ground.guard }], guard := some (10, true) }
def oLb52 : Oper := { dst := some 118, op := Op.indexAddr 26 (Operand.tmp 117) (Operand.const (Value.int IntKind.i64 0)), type := 0, pos := "l6_coercions.go:252", after := #[{ on := 12, ground := Ground.data }, { on := 10, ground := Ground.guard }], guard := some (10, true) }
def oLb53 : Oper := { dst := some 119, op := Op.load 28 (Operand.tmp 118), type := 28, pos := "l6_coercions.go:252", after := #[{ on := 13, ground := Ground.data }, { on := 10, ground := Ground.guard }], guard := some (10, true) }
def oLb54 : Oper := { dst := some 120, op := Op.load 38 (Operand.tmp 4), type := 38, pos := "l6_coercions.go:252", after := #[{ on := 10, ground := Ground.guard }], guard := some (10, true) }
def oLb55 : Oper := { dst := some 121, op := Op.fieldAddr 38 (Operand.tmp 4) 0, type := 0, pos := "l6_coercions.go:252", after := #[{ on := 10, ground := Ground.guard }], guard := some (10, true) }
def oLb56 : Oper := { dst := some 122, op := Op.load 3 (Operand.tmp 121), type := 3, pos := "l6_coercions.go:252", after := #[{ on := 16, ground := Ground.data }, { on := 10, ground := Ground.guard }], guard := some (10, true) }
def oLb57 : Oper := { dst := some 123, op := Op.call { callee := Callee.value (Operand.func 56), args := #[Operand.tmp 122], argTypes := #[3] }, type := 38, pos := "l6_coercions.go:252", after := #[{ on := 17, ground := Ground.data }, { on := 10, ground := Ground.chain }, { on := 10, ground := Ground.guard }], guard := some (10, true) }
def oLb58 : Oper := { dst := some 124, op := Op.call { callee := Callee.value (Operand.func 40), args := #[Operand.tmp 119, Operand.tmp 120, Operand.tmp 123], argTypes := #[28, 38, 38] }, type := 4, pos := "l6_coercions.go:252", after := #[{ on := 14, ground := Ground.data }, { on := 15, ground := Ground.data }, { on := 18, ground := Ground.data }, { on := 18, ground := Ground.chain }, { on := 10, ground := Ground.guard }], guard := some (10, true) }
def oLb59 : Oper := { dst := some 125, op := Op.pick (Operand.tmp 115) (Operand.tmp 124) (Operand.const (Value.bool false)), type := 4, pos := "l6_coercions.go:252", after := #[{ on := 10, ground := Ground.data }, { on := 19, ground := Ground.data }], guard := none }
def oLb60 : Oper := { dst := some 6, op := Op.assign (Operand.tmp 125), type := 4, pos := "l6_coercions.go:252", after := #[{ on := 20, ground := Ground.data }, { on := 19, ground := Ground.chain }, { on := 0, ground := Ground.phase }, { on := 1, ground := Ground.phase }, { on := 2, ground := Ground.phase }, { on := 3, ground := Ground.phase }, { on := 4, ground := Ground.phase }, { on := 5, ground := Ground.phase }, { on := 6, ground := Ground.phase }, { on := 7, ground := Ground.phase }, { on := 8, ground := Ground.phase }, { on := 9, ground := Ground.phase }, { on := 10, ground := Ground.phase }, { on := 11, ground := Ground.phase }, { on := 12, ground := Ground.phase }, { on := 13, ground := Ground.phase }, { on := 14, ground := Ground.phase }, { on := 15, ground := Ground.phase }, { on := 16, ground := Ground.phase }, { on := 17, ground := Ground.phase }, { on := 18, ground := Ground.phase }, { on := 19, ground := Ground.phase }, { on := 20, ground := Ground.phase }], guard := none }
def oLb61 : Oper := { dst := some 128, op := Op.fieldAddr 38 (Operand.tmp 4) 0, type := 0, pos := "l6_coercions.go:254", after := #[], guard := none }
def oLb62 : Oper := { dst := some 129, op := Op.load 3 (Operand.tmp 128), type := 3, pos := "l6_coercions.go:254", after := #[{ on := 0, ground := Ground.data }], guard := none }
def oLb63 : Oper := { dst := some 130, op := Op.binOp BinOp.eql 3 (Operand.tmp 129) (Operand.const (Value.int IntKind.i64 1)) 3, type := 4, pos := "l6_coercions.go:254", after := #[{ on := 1, ground := Ground.data }], guard := none }
def oLb64 : Oper := { dst := some 131, op := Op.move (Operand.tmp 130), type := 4, pos := "l6_coercions.go:254", after := #[{ on := 2, ground := Ground.data }], guard := none }
def oLb65 : Oper := { dst := some 132, op := Op.fieldAddr 28 (Operand.tmp 3) 3, type := 0, pos := "l6_coercions.go:254", after := #[{ on := 3, ground := Ground.guard }], guard := some (3, true) }
def oLb66 : Oper := { dst := some 133, op := Op.load 26 (Operand.tmp 132), type := 26, pos := "l6_coercions.go:254", after := #[{ on := 4, ground := Ground.data }, { on := 3, ground := Ground.guard }], guard := some (3, true) }
def oLb67 : Oper := { dst := some 134, op := Op.indexAddr 26 (Operand.tmp 133) (Operand.const (Value.int IntKind.i64 0)), type := 0, pos := "l6_coercions.go:254", after := #[{ on := 5, ground := Ground.data }, { on := 3, ground := Ground.guard }], guard := some (3, true) }
def oLb68 : Oper := { dst := some 135, op := Op.load 28 (Operand.tmp 134), type := 28, pos := "l6_coercions.go:254", after := #[{ on := 6, ground := Ground.data }, { on := 3, ground := Ground.guard }], guard := some (3, true) }
def oLb69 : Oper := { dst := some 136, op := Op.fieldAddr 28 (Operand.tmp 3) 3, type := 0, pos := "l6_coercions.go:254", after := #[{ on := 3, ground := Ground.guard }], guard := some (3, true) }
def oLb70 : Oper := { dst := some 137, op := Op.load 26 (Operand.tmp 136), type := 26, pos := "l6_coercions.go:254", after := #[{ on := 8, ground := Ground.data }, { on := 3, ground := Ground.guard }], guard := some (3, true) }
def oLb71 : Oper := { dst := some 138, op := Op.indexAddr 26 (Operand.tmp 137) (Operand.const (Value.int IntKind.i64 0)), type := 0, pos := "l6_coercions.go:254", after := #[{ on := 9, ground := Ground.data }, { on := 3, ground := Ground.guard }], guard := some (3, true) }
def oLb72 : Oper := { dst := some 139, op := Op.load 28 (Operand.tmp 138), type := 28, pos := "l6_coercions.go:254", after := #[{ on := 10, ground := Ground.data }, { on := 3, ground := Ground.guard }], guard := some (3, true) }
def oLb73 : Oper := { dst := some 140, op := Op.call { callee := Callee.value (Operand.func 48), args := #[Operand.tmp 139], argTypes := #[28] }, type := 3, pos := "l6_coercions.go:254", after := #[{ on := 11, ground := Ground.data }, { on := 3, ground := Ground.chain }, { on := 3, ground := Ground.guard }], guard := some (3, true) }
def oLb74 : Oper := { dst := some 141, op := Op.call { callee := Callee.value (Operand.func 56), args := #[Operand.tmp 140], argTypes := #[3] }, type := 38, pos := "l6_coercions.go:254", after := #[{ on := 12, ground := Ground.data }, { on := 12, ground := Ground.chain }, { on := 3, ground := Ground.guard }], guard := some (3, true) }
def oLb75 : Oper := { dst := some 142, op := Op.load 38 (Operand.tmp 5), type := 38, pos := "l6_coercions.go:254", after := #[{ on := 3, ground := Ground.guard }], guard := some (3, true) }
def oLb76 : Oper := { dst := some 143, op := Op.call { callee := Callee.value (Operand.func 40), args := #[Operand.tmp 135, Operand.tmp 141, Operand.tmp 142], argTypes := #[28, 38, 38] }, type := 4, pos := "l6_coercions.go:254", after := #[{ on := 7, ground := Ground.data }, { on := 13, ground := Ground.data }, { on := 14, ground := Ground.data }, { on := 13, ground := Ground.chain }, { on := 3, ground := Ground.guard }], guard := some (3, true) }
def oLb77 : Oper := { dst := some 144, op := Op.pick (Operand.tmp 131) (Operand.tmp 143) (Operand.const (Value.bool false)), type := 4, pos := "l6_coercions.go:254", after := #[{ on := 3, ground := Ground.data }, { on := 15, ground := Ground.data }], guard := none }
def oLb78 : Oper := { dst := some 6, op := Op.assign (Operand.tmp 144), type := 4, pos := "l6_coercions.go:254", after := #[{ on := 16, ground := Ground.data }, { on := 15, ground := Ground.chain }, { on := 0, ground := Ground.phase }, { on := 1, ground := Ground.phase }, { on := 2, ground := Ground.phase }, { on := 3, ground := Ground.phase }, { on := 4, ground := Ground.phase }, { on := 5, ground := Ground.phase }, { on := 6, ground := Ground.phase }, { on := 7, ground := Ground.phase }, { on := 8, ground := Ground.phase }, { on := 9, ground := Ground.phase }, { on := 10, ground := Ground.phase }, { on := 11, ground := Ground.phase }, { on := 12, ground := Ground.phase }, { on := 13, ground := Ground.phase }, { on := 14, ground := Ground.phase }, { on := 15, ground := Ground.phase }, { on := 16, ground := Ground.phase }], guard := none }

theorem leaf_ldimpl3i_0 (fk tk : Int) (rr2 : Bool) (h0 : (fk == 5) = false) : (false : Bool) = (fk == 5 && tk == 5 && rr2) := by
  simp_all

theorem leaf_ldimpl3j_1 (fk tk : Int) (rr2 : Bool) (h0 : (fk == 5) = true) (h1 : (tk == 5) = false) : (false : Bool) = (fk == 5 && tk == 5 && rr2) := by
  simp_all

theorem leaf_ldimpl3k_2 (r0 r1 : Bool) (h0 : (r0) = true) : (r1 : Bool) = (r0 && r1) := by
  simp_all

theorem leaf_ldimpl3k_3 (r0 r1 : Bool) (h0 : (r0) = false) : (false : Bool) = (r0 && r1) := by
  simp_all

theorem leaf_ldimpl4_4 (tk fk tg : Int) (r0 : Bool) (h0 : (tk == 1) = true) (h1 : (fk == tg) = true) : (r0 : Bool) = (tk == 1 && fk == tg && r0) := by
  simp_all

theorem leaf_ldimpl4_5 (tk fk tg : Int) (r0 : Bool) (h0 : (tk == 1) = true) (h1 : (fk == tg) = false) : (false : Bool) = (tk == 1 && fk == tg && r0) := by
  simp_all

theorem leaf_ldimpl4_6 (tk fk tg : Int) (r0 : Bool) (h0 : (tk == 1) = false) : (false : Bool) = (tk == 1 && fk == tg && r0) := by
  simp_all

theorem leaf_ldimpl5_7 (fk : Int) (r0 : Bool) (h0 : (fk == 1) = true) : (r0 : Bool) = (fk == 1 && r0) := by
  simp_all

theorem leaf_ldimpl5_8 (fk : Int) (r0 : Bool) (h0 : (fk == 1) = false) : (false : Bool) = (fk == 1 && r0) := by
  simp_all

set_option maxHeartbeats 4000000 in
theorem implLd3i (g l fk tk : Int) (fa ta : Option Addr) (fn fq tn tq : Nat) (a : Option Addr) (n q : Nat) (rr2 : Bool) (w : World) (z1 : (fk == 5) = false) :
    Calls Try.prog 40 #[.agg #[.int .i64 3, .int .i64 g, .int .i64 l, .slice a n q], .agg #[.int .i64 fk, .slice fa fn fq], .agg #[.int .i64 tk, .slice ta tn tq]] w fun e w' => e = .returned (.bool (fk == 5 && tk == 5 && rr2)) ∧ Below w.heap.size w w' := by
  obtain ⟨rr, hrr⟩ : ∃ rr0 : Bool, (fk == 5 && tk == 5 && rr2) = rr0 := ⟨_, rfl⟩
  rw [hrr]
  have HT := Lib.hid hrr
  clear hrr
  have nz1 : (fk != 5) = true := by simp only [bne, z1]; rfl
  go_enter Try.func40, Try.ntmps40
  go_wp2_with fail
  have s0_ : (World.alloc (World.alloc (World.alloc w (Obj.cells #[.int .i64 3, .int .i64 g, .int .i64 l, .slice a n q] 28)) (Obj.cells #[.int .i64 fk, .slice fa fn fq] 38)) (Obj.cells #[.int .i64 tk, .slice ta tn tq] 38)).cell? ⟨w.heap.size + 1, 0, none⟩ = some (.int .i64 fk) := bcell bal1 (cell_new (by simp) 0)
  refine wp_region_noPanic ?_
  refine wp_region_held_drew (S := fun w' => w'.cell? ⟨w.heap.size + 1, 0, none⟩ = some (.int .i64 fk)) (by kernel_rfl) ?_ (fun hHeld0 => ?_)
  · exact dcell (s0_)
  refine wpAnyH_take (i := 0) (oi := oLb0) (v := .pointer (some ⟨w.heap.size + 1, 0, none⟩)) rfl (by kernel_rfl) (by kernel_rfl) (by kernel_rfl) (fun _ _ _ h => h) (Or.inl ⟨by rfl, ?_⟩) hHeld0 ?_
  · intro w' hSw; (try dsimp only at hSw); dsimp only [oLb0]; go_simp
  (try simp only [oLb0, Act.put, List.setIfInBounds_toArray, List.set_cons_zero, List.set_cons_succ])
  refine wpAnyH_take (i := 1) (oi := oLb1) (v := .int .i64 fk) rfl (by kernel_rfl) (by kernel_rfl) (by kernel_rfl) (fun _ _ _ h => h) (Or.inl ⟨by rfl, ?_⟩) hHeld0 ?_
  · intro w' hSw; (try dsimp only at hSw); dsimp only [oLb1]; go_simp
  (try simp only [oLb1, Act.put, List.setIfInBounds_toArray, List.set_cons_zero, List.set_cons_succ])
  refine wpAnyH_take (i := 2) (oi := oLb2) (v := .bool false) rfl (by kernel_rfl) (by kernel_rfl) (by kernel_rfl) (fun _ _ _ h => h) (Or.inl ⟨by rfl, ?_⟩) hHeld0 ?_
  · intro w' hSw; (try dsimp only at hSw); dsimp only [oLb2]; go_simp
  (try simp only [oLb2, Act.put, List.setIfInBounds_toArray, List.set_cons_zero, List.set_cons_succ])
  refine wpAnyH_take (i := 3) (oi := oLb3) (v := .bool false) rfl (by kernel_rfl) (by kernel_rfl) (by kernel_rfl) (fun _ _ _ h => h) (Or.inl ⟨by rfl, ?_⟩) hHeld0 ?_
  · intro w' hSw; (try dsimp only at hSw); dsimp only [oLb3]; go_simp
  (try simp only [oLb3, Act.put, List.setIfInBounds_toArray, List.set_cons_zero, List.set_cons_succ])
  refine wpAnyH_take (i := 4) (oi := oLb4) (v := undef) rfl (by kernel_rfl) (by kernel_rfl) (by kernel_rfl) (fun _ _ _ h => h) (Or.inr ⟨by rfl, rfl⟩) hHeld0 ?_
  (try simp only [oLb4, Act.put, List.setIfInBounds_toArray, List.set_cons_zero, List.set_cons_succ])
  refine wpAnyH_take (i := 5) (oi := oLb5) (v := undef) rfl (by kernel_rfl) (by kernel_rfl) (by kernel_rfl) (fun _ _ _ h => h) (Or.inr ⟨by rfl, rfl⟩) hHeld0 ?_
  (try simp only [oLb5, Act.put, List.setIfInBounds_toArray, List.set_cons_zero, List.set_cons_succ])
  refine wpAnyH_take (i := 6) (oi := oLb6) (v := undef) rfl (by kernel_rfl) (by kernel_rfl) (by kernel_rfl) (fun _ _ _ h => h) (Or.inr ⟨by rfl, rfl⟩) hHeld0 ?_
  (try simp only [oLb6, Act.put, List.setIfInBounds_toArray, List.set_cons_zero, List.set_cons_succ])
  refine wpAnyH_take (i := 7) (oi := oLb7) (v := .bool false) rfl (by kernel_rfl) (by kernel_rfl) (by kernel_rfl) (fun _ _ _ h => h) (Or.inl ⟨by rfl, ?_⟩) hHeld0 ?_
  · intro w' hSw; (try dsimp only at hSw); dsimp only [oLb7]; go_simp
  (try simp only [oLb7, Act.put, List.setIfInBounds_toArray, List.set_cons_zero, List.set_cons_succ])
  refine wpAnyH_take (i := 8) (oi := oLb8) (v := .bool false) rfl (by kernel_rfl) (by kernel_rfl) (by kernel_rfl) (fun _ _ _ h => h) (Or.inl ⟨by rfl, ?_⟩) hHeld0 ?_
  · intro w' hSw; (try dsimp only at hSw); dsimp only [oLb8]; go_simp
  (try simp only [oLb8, Act.put, List.setIfInBounds_toArray, List.set_cons_zero, List.set_cons_succ])
  refine wpAnyH_take (i := 9) (oi := oLb9) (v := undef) rfl (by kernel_rfl) (by kernel_rfl) (by kernel_rfl) (fun _ _ _ h => h) (Or.inr ⟨by rfl, rfl⟩) hHeld0 ?_
  (try simp only [oLb9, Act.put, List.setIfInBounds_toArray, List.set_cons_zero, List.set_cons_succ])
  refine wpAnyH_take (i := 10) (oi := oLb10) (v := undef) rfl (by kernel_rfl) (by kernel_rfl) (by kernel_rfl) (fun _ _ _ h => h) (Or.inr ⟨by rfl, rfl⟩) hHeld0 ?_
  (try simp only [oLb10, Act.put, List.setIfInBounds_toArray, List.set_cons_zero, List.set_cons_succ])
  refine wpAnyH_take (i := 11) (oi := oLb11) (v := undef) rfl (by kernel_rfl) (by kernel_rfl) (by kernel_rfl) (fun _ _ _ h => h) (Or.inr ⟨by rfl, rfl⟩) hHeld0 ?_
  (try simp only [oLb11, Act.put, List.setIfInBounds_toArray, List.set_cons_zero, List.set_cons_succ])
  refine wpAnyH_take (i := 12) (oi := oLb12) (v := undef) rfl (by kernel_rfl) (by kernel_rfl) (by kernel_rfl) (fun _ _ _ h => h) (Or.inr ⟨by rfl, rfl⟩) hHeld0 ?_
  (try simp only [oLb12, Act.put, List.setIfInBounds_toArray, List.set_cons_zero, List.set_cons_succ])
  refine wpAnyH_take (i := 13) (oi := oLb13) (v := undef) rfl (by kernel_rfl) (by kernel_rfl) (by kernel_rfl) (fun _ _ _ h => h) (Or.inr ⟨by rfl, rfl⟩) hHeld0 ?_
  (try simp only [oLb13, Act.put, List.setIfInBounds_toArray, List.set_cons_zero, List.set_cons_succ])
  refine wpAnyH_take (i := 14) (oi := oLb14) (v := undef) rfl (by kernel_rfl) (by kernel_rfl) (by kernel_rfl) (fun _ _ _ h => h) (Or.inr ⟨by rfl, rfl⟩) hHeld0 ?_
  (try simp only [oLb14, Act.put, List.setIfInBounds_toArray, List.set_cons_zero, List.set_cons_succ])
  refine wpAnyH_take (i := 15) (oi := oLb15) (v := undef) rfl (by kernel_rfl) (by kernel_rfl) (by kernel_rfl) (fun _ _ _ h => h) (Or.inr ⟨by rfl, rfl⟩) hHeld0 ?_
  (try simp only [oLb15, Act.put, List.setIfInBounds_toArray, List.set_cons_zero, List.set_cons_succ])
  refine wpAnyH_take (i := 16) (oi := oLb16) (v := undef) rfl (by kernel_rfl) (by kernel_rfl) (by kernel_rfl) (fun _ _ _ h => h) (Or.inr ⟨by rfl, rfl⟩) hHeld0 ?_
  (try simp only [oLb16, Act.put, List.setIfInBounds_toArray, List.set_cons_zero, List.set_cons_succ])
  refine wpAnyH_take (i := 17) (oi := oLb17) (v := undef) rfl (by kernel_rfl) (by kernel_rfl) (by kernel_rfl) (fun _ _ _ h => h) (Or.inr ⟨by rfl, rfl⟩) hHeld0 ?_
  (try simp only [oLb17, Act.put, List.setIfInBounds_toArray, List.set_cons_zero, List.set_cons_succ])
  refine wpAnyH_take (i := 18) (oi := oLb18) (v := undef) rfl (by kernel_rfl) (by kernel_rfl) (by kernel_rfl) (fun _ _ _ h => h) (Or.inr ⟨by rfl, rfl⟩) hHeld0 ?_
  (try simp only [oLb18, Act.put, List.setIfInBounds_toArray, List.set_cons_zero, List.set_cons_succ])
  refine wpAnyH_take (i := 19) (oi := oLb19) (v := undef) rfl (by kernel_rfl) (by kernel_rfl) (by kernel_rfl) (fun _ _ _ h => h) (Or.inr ⟨by rfl, rfl⟩) hHeld0 ?_
  (try simp only [oLb19, Act.put, List.setIfInBounds_toArray, List.set_cons_zero, List.set_cons_succ])
  refine wpAnyH_take (i := 20) (oi := oLb20) (v := undef) rfl (by kernel_rfl) (by kernel_rfl) (by kernel_rfl) (fun _ _ _ h => h) (Or.inr ⟨by rfl, rfl⟩) hHeld0 ?_
  (try simp only [oLb20, Act.put, List.setIfInBounds_toArray, List.set_cons_zero, List.set_cons_succ])
  refine wpAnyH_take (i := 21) (oi := oLb21) (v := undef) rfl (by kernel_rfl) (by kernel_rfl) (by kernel_rfl) (fun _ _ _ h => h) (Or.inr ⟨by rfl, rfl⟩) hHeld0 ?_
  (try simp only [oLb21, Act.put, List.setIfInBounds_toArray, List.set_cons_zero, List.set_cons_succ])
  refine wpAnyH_take (i := 22) (oi := oLb22) (v := .bool false) rfl (by kernel_rfl) (by kernel_rfl) (by kernel_rfl) (fun _ _ _ h => h) (Or.inl ⟨by rfl, ?_⟩) hHeld0 ?_
  · intro w' hSw; (try dsimp only at hSw); dsimp only [oLb22]; go_simp
  (try simp only [oLb22, Act.put, List.setIfInBounds_toArray, List.set_cons_zero, List.set_cons_succ])
  refine wpAnyH_take (i := 23) (oi := oLb23) (v := .bool false) rfl (by kernel_rfl) (by kernel_rfl) (by kernel_rfl) (fun _ _ _ h => h) (Or.inl ⟨by rfl, ?_⟩) hHeld0 ?_
  · intro w' hSw; (try dsimp only at hSw); dsimp only [oLb23]; go_simp
  (try simp only [oLb23, Act.put, List.setIfInBounds_toArray, List.set_cons_zero, List.set_cons_succ])
  refine wpAnyH_take (i := 24) (oi := oLb24) (v := undef) rfl (by kernel_rfl) (by kernel_rfl) (by kernel_rfl) (fun _ _ _ h => h) (Or.inr ⟨by rfl, rfl⟩) hHeld0 ?_
  (try simp only [oLb24, Act.put, List.setIfInBounds_toArray, List.set_cons_zero, List.set_cons_succ])
  refine wpAnyH_take (i := 25) (oi := oLb25) (v := undef) rfl (by kernel_rfl) (by kernel_rfl) (by kernel_rfl) (fun _ _ _ h => h) (Or.inr ⟨by rfl, rfl⟩) hHeld0 ?_
  (try simp only [oLb25, Act.put, List.setIfInBounds_toArray, List.set_cons_zero, List.set_cons_succ])
  refine wpAnyH_take (i := 26) (oi := oLb26) (v := undef) rfl (by kernel_rfl) (by kernel_rfl) (by kernel_rfl) (fun _ _ _ h => h) (Or.inr ⟨by rfl, rfl⟩) hHeld0 ?_
  (try simp only [oLb26, Act.put, List.setIfInBounds_toArray, List.set_cons_zero, List.set_cons_succ])
  refine wpAnyH_take (i := 27) (oi := oLb27) (v := undef) rfl (by kernel_rfl) (by kernel_rfl) (by kernel_rfl) (fun _ _ _ h => h) (Or.inr ⟨by rfl, rfl⟩) hHeld0 ?_
  (try simp only [oLb27, Act.put, List.setIfInBounds_toArray, List.set_cons_zero, List.set_cons_succ])
  refine wpAnyH_take (i := 28) (oi := oLb28) (v := undef) rfl (by kernel_rfl) (by kernel_rfl) (by kernel_rfl) (fun _ _ _ h => h) (Or.inr ⟨by rfl, rfl⟩) hHeld0 ?_
  (try simp only [oLb28, Act.put, List.setIfInBounds_toArray, List.set_cons_zero, List.set_cons_succ])
  refine wpAnyH_take (i := 29) (oi := oLb29) (v := undef) rfl (by kernel_rfl) (by kernel_rfl) (by kernel_rfl) (fun _ _ _ h => h) (Or.inr ⟨by rfl, rfl⟩) hHeld0 ?_
  (try simp only [oLb29, Act.put, List.setIfInBounds_toArray, List.set_cons_zero, List.set_cons_succ])
  refine wpAnyH_take (i := 30) (oi := oLb30) (v := undef) rfl (by kernel_rfl) (by kernel_rfl) (by kernel_rfl) (fun _ _ _ h => h) (Or.inr ⟨by rfl, rfl⟩) hHeld0 ?_
  (try simp only [oLb30, Act.put, List.setIfInBounds_toArray, List.set_cons_zero, List.set_cons_succ])
  refine wpAnyH_take (i := 31) (oi := oLb31) (v := undef) rfl (by kernel_rfl) (by kernel_rfl) (by kernel_rfl) (fun _ _ _ h => h) (Or.inr ⟨by rfl, rfl⟩) hHeld0 ?_
  (try simp only [oLb31, Act.put, List.setIfInBounds_toArray, List.set_cons_zero, List.set_cons_succ])
  refine wpAnyH_take (i := 32) (oi := oLb32) (v := undef) rfl (by kernel_rfl) (by kernel_rfl) (by kernel_rfl) (fun _ _ _ h => h) (Or.inr ⟨by rfl, rfl⟩) hHeld0 ?_
  (try simp only [oLb32, Act.put, List.setIfInBounds_toArray, List.set_cons_zero, List.set_cons_succ])
  refine wpAnyH_take (i := 33) (oi := oLb33) (v := undef) rfl (by kernel_rfl) (by kernel_rfl) (by kernel_rfl) (fun _ _ _ h => h) (Or.inr ⟨by rfl, rfl⟩) hHeld0 ?_
  (try simp only [oLb33, Act.put, List.setIfInBounds_toArray, List.set_cons_zero, List.set_cons_succ])
  refine wpAnyH_take (i := 34) (oi := oLb34) (v := undef) rfl (by kernel_rfl) (by kernel_rfl) (by kernel_rfl) (fun _ _ _ h => h) (Or.inr ⟨by rfl, rfl⟩) hHeld0 ?_
  (try simp only [oLb34, Act.put, List.setIfInBounds_toArray, List.set_cons_zero, List.set_cons_succ])
  refine wpAnyH_take (i := 35) (oi := oLb35) (v := undef) rfl (by kernel_rfl) (by kernel_rfl) (by kernel_rfl) (fun _ _ _ h => h) (Or.inr ⟨by rfl, rfl⟩) hHeld0 ?_
  (try simp only [oLb35, Act.put, List.setIfInBounds_toArray, List.set_cons_zero, List.set_cons_succ])
  refine wpAnyH_take (i := 36) (oi := oLb36) (v := undef) rfl (by kernel_rfl) (by kernel_rfl) (by kernel_rfl) (fun _ _ _ h => h) (Or.inr ⟨by rfl, rfl⟩) hHeld0 ?_
  (try simp only [oLb36, Act.put, List.setIfInBounds_toArray, List.set_cons_zero, List.set_cons_succ])
  refine wpAnyH_take (i := 37) (oi := oLb37) (v := .bool false) rfl (by kernel_rfl) (by kernel_rfl) (by kernel_rfl) (fun _ _ _ h => h) (Or.inl ⟨by rfl, ?_⟩) hHeld0 ?_
  · intro w' hSw; (try dsimp only at hSw); dsimp only [oLb37]; go_simp
  (try simp only [oLb37, Act.put, List.setIfInBounds_toArray, List.set_cons_zero, List.set_cons_succ])
  refine wpAnyH_take (i := 38) (oi := oLb38) (v := .bool false) rfl (by kernel_rfl) (by kernel_rfl) (by kernel_rfl) (fun _ _ _ h => h) (Or.inl ⟨by rfl, ?_⟩) hHeld0 ?_
  · intro w' hSw; (try dsimp only at hSw); dsimp only [oLb38]; go_simp
  (try simp only [oLb38, Act.put, List.setIfInBounds_toArray, List.set_cons_zero, List.set_cons_succ])
  refine wpAnyH_done (by kernel_rfl) ?_ _
  refine NoPanic.normal ?_
  clear hHeld0 s0_
  go_wp2_with fail
  refine bodyPost_ret (v := .bool (false)) (by simp [results, Try.results40, go_sem, bne]) rfl ?_
  exact ⟨ret_bool ((leaf_ldimpl3i_0 fk tk rr2 z1).trans HT.out), bal3.drew⟩
set_option maxHeartbeats 4000000 in
theorem implLd3j (g l fk tk : Int) (fa ta : Option Addr) (fn fq tn tq : Nat) (a : Option Addr) (n q : Nat) (rr2 : Bool) (w : World) (z1 : (fk == 5) = true) (z2 : (tk == 5) = false) :
    Calls Try.prog 40 #[.agg #[.int .i64 3, .int .i64 g, .int .i64 l, .slice a n q], .agg #[.int .i64 fk, .slice fa fn fq], .agg #[.int .i64 tk, .slice ta tn tq]] w fun e w' => e = .returned (.bool (fk == 5 && tk == 5 && rr2)) ∧ Below w.heap.size w w' := by
  obtain ⟨rr, hrr⟩ : ∃ rr0 : Bool, (fk == 5 && tk == 5 && rr2) = rr0 := ⟨_, rfl⟩
  rw [hrr]
  have HT := Lib.hid hrr
  clear hrr
  have nz1 : (fk != 5) = false := by simp only [bne, z1]; rfl
  have nz2 : (tk != 5) = true := by simp only [bne, z2]; rfl
  go_enter Try.func40, Try.ntmps40
  go_wp2_with fail
  have s0_ : (World.alloc (World.alloc (World.alloc w (Obj.cells #[.int .i64 3, .int .i64 g, .int .i64 l, .slice a n q] 28)) (Obj.cells #[.int .i64 fk, .slice fa fn fq] 38)) (Obj.cells #[.int .i64 tk, .slice ta tn tq] 38)).cell? ⟨w.heap.size + 1, 0, none⟩ = some (.int .i64 fk) := bcell bal1 (cell_new (by simp) 0)
  have s1_ : (World.alloc (World.alloc (World.alloc w (Obj.cells #[.int .i64 3, .int .i64 g, .int .i64 l, .slice a n q] 28)) (Obj.cells #[.int .i64 fk, .slice fa fn fq] 38)) (Obj.cells #[.int .i64 tk, .slice ta tn tq] 38)).cell? ⟨w.heap.size + 1 + 1, 0, none⟩ = some (.int .i64 tk) := cell_new (by simp) 0
  refine wp_region_noPanic ?_
  refine wp_region_held_drew (S := fun w' => w'.cell? ⟨w.heap.size + 1, 0, none⟩ = some (.int .i64 fk) ∧ w'.cell? ⟨w.heap.size + 1 + 1, 0, none⟩ = some (.int .i64 tk)) (by kernel_rfl) ?_ (fun hHeld0 => ?_)
  · exact ⟨dcell (s0_), dcell (s1_)⟩
  refine wpAnyH_take (i := 0) (oi := oLb0) (v := .pointer (some ⟨w.heap.size + 1, 0, none⟩)) rfl (by kernel_rfl) (by kernel_rfl) (by kernel_rfl) (fun _ _ _ h => h) (Or.inl ⟨by rfl, ?_⟩) hHeld0 ?_
  · intro w' hSw; (try dsimp only at hSw); dsimp only [oLb0]; go_simp
  (try simp only [oLb0, Act.put, List.setIfInBounds_toArray, List.set_cons_zero, List.set_cons_succ])
  refine wpAnyH_take (i := 1) (oi := oLb1) (v := .int .i64 fk) rfl (by kernel_rfl) (by kernel_rfl) (by kernel_rfl) (fun _ _ _ h => h) (Or.inl ⟨by rfl, ?_⟩) hHeld0 ?_
  · intro w' hSw; (try dsimp only at hSw); dsimp only [oLb1]; go_simp
  (try simp only [oLb1, Act.put, List.setIfInBounds_toArray, List.set_cons_zero, List.set_cons_succ])
  refine wpAnyH_take (i := 2) (oi := oLb2) (v := .bool true) rfl (by kernel_rfl) (by kernel_rfl) (by kernel_rfl) (fun _ _ _ h => h) (Or.inl ⟨by rfl, ?_⟩) hHeld0 ?_
  · intro w' hSw; (try dsimp only at hSw); dsimp only [oLb2]; go_simp
  (try simp only [oLb2, Act.put, List.setIfInBounds_toArray, List.set_cons_zero, List.set_cons_succ])
  refine wpAnyH_take (i := 3) (oi := oLb3) (v := .bool true) rfl (by kernel_rfl) (by kernel_rfl) (by kernel_rfl) (fun _ _ _ h => h) (Or.inl ⟨by rfl, ?_⟩) hHeld0 ?_
  · intro w' hSw; (try dsimp only at hSw); dsimp only [oLb3]; go_simp
  (try simp only [oLb3, Act.put, List.setIfInBounds_toArray, List.set_cons_zero, List.set_cons_succ])
  refine wpAnyH_take (i := 4) (oi := oLb4) (v := .pointer (some ⟨w.heap.size + 1 + 1, 0, none⟩)) rfl (by kernel_rfl) (by kernel_rfl) (by kernel_rfl) (fun _ _ _ h => h) (Or.inl ⟨by rfl, ?_⟩) hHeld0 ?_
  · intro w' hSw; (try dsimp only at hSw); dsimp only [oLb4]; go_simp
  (try simp only [oLb4, Act.put, List.setIfInBounds_toArray, List.set_cons_zero, List.set_cons_succ])
  refine wpAnyH_take (i := 5) (oi := oLb5) (v := .int .i64 tk) rfl (by kernel_rfl) (by kernel_rfl) (by kernel_rfl) (fun _ _ _ h => h) (Or.inl ⟨by rfl, ?_⟩) hHeld0 ?_
  · intro w' hSw; (try dsimp only at hSw); dsimp only [oLb5]; go_simp
  (try simp only [oLb5, Act.put, List.setIfInBounds_toArray, List.set_cons_zero, List.set_cons_succ])
  refine wpAnyH_take (i := 6) (oi := oLb6) (v := .bool false) rfl (by kernel_rfl) (by kernel_rfl) (by kernel_rfl) (fun _ _ _ h => h) (Or.inl ⟨by rfl, ?_⟩) hHeld0 ?_
  · intro w' hSw; (try dsimp only at hSw); dsimp only [oLb6]; go_simp
  (try simp only [oLb6, Act.put, List.setIfInBounds_toArray, List.set_cons_zero, List.set_cons_succ])
  refine wpAnyH_take (i := 7) (oi := oLb7) (v := .bool false) rfl (by kernel_rfl) (by kernel_rfl) (by kernel_rfl) (fun _ _ _ h => h) (Or.inl ⟨by rfl, ?_⟩) hHeld0 ?_
  · intro w' hSw; (try dsimp only at hSw); dsimp only [oLb7]; go_simp
  (try simp only [oLb7, Act.put, List.setIfInBounds_toArray, List.set_cons_zero, List.set_cons_succ])
  refine wpAnyH_take (i := 8) (oi := oLb8) (v := .bool false) rfl (by kernel_rfl) (by kernel_rfl) (by kernel_rfl) (fun _ _ _ h => h) (Or.inl ⟨by rfl, ?_⟩) hHeld0 ?_
  · intro w' hSw; (try dsimp only at hSw); dsimp only [oLb8]; go_simp
  (try simp only [oLb8, Act.put, List.setIfInBounds_toArray, List.set_cons_zero, List.set_cons_succ])
  refine wpAnyH_take (i := 9) (oi := oLb9) (v := undef) rfl (by kernel_rfl) (by kernel_rfl) (by kernel_rfl) (fun _ _ _ h => h) (Or.inr ⟨by rfl, rfl⟩) hHeld0 ?_
  (try simp only [oLb9, Act.put, List.setIfInBounds_toArray, List.set_cons_zero, List.set_cons_succ])
  refine wpAnyH_take (i := 10) (oi := oLb10) (v := undef) rfl (by kernel_rfl) (by kernel_rfl) (by kernel_rfl) (fun _ _ _ h => h) (Or.inr ⟨by rfl, rfl⟩) hHeld0 ?_
  (try simp only [oLb10, Act.put, List.setIfInBounds_toArray, List.set_cons_zero, List.set_cons_succ])
  refine wpAnyH_take (i := 11) (oi := oLb11) (v := undef) rfl (by kernel_rfl) (by kernel_rfl) (by kernel_rfl) (fun _ _ _ h => h) (Or.inr ⟨by rfl, rfl⟩) hHeld0 ?_
  (try simp only [oLb11, Act.put, List.setIfInBounds_toArray, List.set_cons_zero, List.set_cons_succ])
  refine wpAnyH_take (i := 12) (oi := oLb12) (v := undef) rfl (by kernel_rfl) (by kernel_rfl) (by kernel_rfl) (fun _ _ _ h => h) (Or.inr ⟨by rfl, rfl⟩) hHeld0 ?_
  (try simp only [oLb12, Act.put, List.setIfInBounds_toArray, List.set_cons_zero, List.set_cons_succ])
  refine wpAnyH_take (i := 13) (oi := oLb13) (v := undef) rfl (by kernel_rfl) (by kernel_rfl) (by kernel_rfl) (fun _ _ _ h => h) (Or.inr ⟨by rfl, rfl⟩) hHeld0 ?_
  (try simp only [oLb13, Act.put, List.setIfInBounds_toArray, List.set_cons_zero, List.set_cons_succ])
  refine wpAnyH_take (i := 14) (oi := oLb14) (v := undef) rfl (by kernel_rfl) (by kernel_rfl) (by kernel_rfl) (fun _ _ _ h => h) (Or.inr ⟨by rfl, rfl⟩) hHeld0 ?_
  (try simp only [oLb14, Act.put, List.setIfInBounds_toArray, List.set_cons_zero, List.set_cons_succ])
  refine wpAnyH_take (i := 15) (oi := oLb15) (v := undef) rfl (by kernel_rfl) (by kernel_rfl) (by kernel_rfl) (fun _ _ _ h => h) (Or.inr ⟨by rfl, rfl⟩) hHeld0 ?_
  (try simp only [oLb15, Act.put, List.setIfInBounds_toArray, List.set_cons_zero, List.set_cons_succ])
  refine wpAnyH_take (i := 16) (oi := oLb16) (v := undef) rfl (by kernel_rfl) (by kernel_rfl) (by kernel_rfl) (fun _ _ _ h => h) (Or.inr ⟨by rfl, rfl⟩) hHeld0 ?_
  (try simp only [oLb16, Act.put, List.setIfInBounds_toArray, List.set_cons_zero, List.set_cons_succ])
  refine wpAnyH_take (i := 17) (oi := oLb17) (v := undef) rfl (by kernel_rfl) (by kernel_rfl) (by kernel_rfl) (fun _ _ _ h => h) (Or.inr ⟨by rfl, rfl⟩) hHeld0 ?_
  (try simp only [oLb17, Act.put, List.setIfInBounds_toArray, List.set_cons_zero, List.set_cons_succ])
  refine wpAnyH_take (i := 18) (oi := oLb18) (v := undef) rfl (by kernel_rfl) (by kernel_rfl) (by kernel_rfl) (fun _ _ _ h => h) (Or.inr ⟨by rfl, rfl⟩) hHeld0 ?_
  (try simp only [oLb18, Act.put, List.setIfInBounds_toArray, List.set_cons_zero, List.set_cons_succ])
  refine wpAnyH_take (i := 19) (oi := oLb19) (v := undef) rfl (by kernel_rfl) (by kernel_rfl) (by kernel_rfl) (fun _ _ _ h => h) (Or.inr ⟨by rfl, rfl⟩) hHeld0 ?_
  (try simp only [oLb19, Act.put, List.setIfInBounds_toArray, List.set_cons_zero, List.set_cons_succ])
  refine wpAnyH_take (i := 20) (oi := oLb20) (v := undef) rfl (by kernel_rfl) (by kernel_rfl) (by kernel_rfl) (fun _ _ _ h => h) (Or.inr ⟨by rfl, rfl⟩) hHeld0 ?_
  (try simp only [oLb20, Act.put, List.setIfInBounds_toArray, List.set_cons_zero, List.set_cons_succ])
  refine wpAnyH_take (i := 21) (oi := oLb21) (v := undef) rfl (by kernel_rfl) (by kernel_rfl) (by kernel_rfl) (fun _ _ _ h => h) (Or.inr ⟨by rfl, rfl⟩) hHeld0 ?_
  (try simp only [oLb21, Act.put, List.setIfInBounds_toArray, List.set_cons_zero, List.set_cons_succ])
  refine wpAnyH_take (i := 22) (oi := oLb22) (v := .bool false) rfl (by kernel_rfl) (by kernel_rfl) (by kernel_rfl) (fun _ _ _ h => h) (Or.inl ⟨by rfl, ?_⟩) hHeld0 ?_
  · intro w' hSw; (try dsimp only at hSw); dsimp only [oLb22]; go_simp
  (try simp only [oLb22, Act.put, List.setIfInBounds_toArray, List.set_cons_zero, List.set_cons_succ])
  refine wpAnyH_take (i := 23) (oi := oLb23) (v := .bool false) rfl (by kernel_rfl) (by kernel_rfl) (by kernel_rfl) (fun _ _ _ h => h) (Or.inl ⟨by rfl, ?_⟩) hHeld0 ?_
  · intro w' hSw; (try dsimp only at hSw); dsimp only [oLb23]; go_simp
  (try simp only [oLb23, Act.put, List.setIfInBounds_toArray, List.set_cons_zero, List.set_cons_succ])
  refine wpAnyH_take (i := 24) (oi := oLb24) (v := undef) rfl (by kernel_rfl) (by kernel_rfl) (by kernel_rfl) (fun _ _ _ h => h) (Or.inr ⟨by rfl, rfl⟩) hHeld0 ?_
  (try simp only [oLb24, Act.put, List.setIfInBounds_toArray, List.set_cons_zero, List.set_cons_succ])
  refine wpAnyH_take (i := 25) (oi := oLb25) (v := undef) rfl (by kernel_rfl) (by kernel_rfl) (by kernel_rfl) (fun _ _ _ h => h) (Or.inr ⟨by rfl, rfl⟩) hHeld0 ?_
  (try simp only [oLb25, Act.put, List.setIfInBounds_toArray, List.set_cons_zero, List.set_cons_succ])
  refine wpAnyH_take (i := 26) (oi := oLb26) (v := undef) rfl (by kernel_rfl) (by kernel_rfl) (by kernel_rfl) (fun _ _ _ h => h) (Or.inr ⟨by rfl, rfl⟩) hHeld0 ?_
  (try simp only [oLb26, Act.put, List.setIfInBounds_toArray, List.set_cons_zero, List.set_cons_succ])
  refine wpAnyH_take (i := 27) (oi := oLb27) (v := undef) rfl (by kernel_rfl) (by kernel_rfl) (by kernel_rfl) (fun _ _ _ h => h) (Or.inr ⟨by rfl, rfl⟩) hHeld0 ?_
  (try simp only [oLb27, Act.put, List.setIfInBounds_toArray, List.set_cons_zero, List.set_cons_succ])
  refine wpAnyH_take (i := 28) (oi := oLb28) (v := undef) rfl (by kernel_rfl) (by kernel_rfl) (by kernel_rfl) (fun _ _ _ h => h) (Or.inr ⟨by rfl, rfl⟩) hHeld0 ?_
  (try simp only [oLb28, Act.put, List.setIfInBounds_toArray, List.set_cons_zero, List.set_cons_succ])
  refine wpAnyH_take (i := 29) (oi := oLb29) (v := undef) rfl (by kernel_rfl) (by kernel_rfl) (by kernel_rfl) (fun _ _ _ h => h) (Or.inr ⟨by rfl, rfl⟩) hHeld0 ?_
  (try simp only [oLb29, Act.put, List.setIfInBounds_toArray, List.set_cons_zero, List.set_cons_succ])
  refine wpAnyH_take (i := 30) (oi := oLb30) (v := undef) rfl (by kernel_rfl) (by kernel_rfl) (by kernel_rfl) (fun _ _ _ h => h) (Or.inr ⟨by rfl, rfl⟩) hHeld0 ?_
  (try simp only [oLb30, Act.put, List.setIfInBounds_toArray, List.set_cons_zero, List.set_cons_succ])
  refine wpAnyH_take (i := 31) (oi := oLb31) (v := undef) rfl (by kernel_rfl) (by kernel_rfl) (by kernel_rfl) (fun _ _ _ h => h) (Or.inr ⟨by rfl, rfl⟩) hHeld0 ?_
  (try simp only [oLb31, Act.put, List.setIfInBounds_toArray, List.set_cons_zero, List.set_cons_succ])
  refine wpAnyH_take (i := 32) (oi := oLb32) (v := undef) rfl (by kernel_rfl) (by kernel_rfl) (by kernel_rfl) (fun _ _ _ h => h) (Or.inr ⟨by rfl, rfl⟩) hHeld0 ?_
  (try simp only [oLb32, Act.put, List.setIfInBounds_toArray, List.set_cons_zero, List.set_cons_succ])
  refine wpAnyH_take (i := 33) (oi := oLb33) (v := undef) rfl (by kernel_rfl) (by kernel_rfl) (by kernel_rfl) (fun _ _ _ h => h) (Or.inr ⟨by rfl, rfl⟩) hHeld0 ?_
  (try simp only [oLb33, Act.put, List.setIfInBounds_toArray, List.set_cons_zero, List.set_cons_succ])
  refine wpAnyH_take (i := 34) (oi := oLb34) (v := undef) rfl (by kernel_rfl) (by kernel_rfl) (by kernel_rfl) (fun _ _ _ h => h) (Or.inr ⟨by rfl, rfl⟩) hHeld0 ?_
  (try simp only [oLb34, Act.put, List.setIfInBounds_toArray, List.set_cons_zero, List.set_cons_succ])
  refine wpAnyH_take (i := 35) (oi := oLb35) (v := undef) rfl (by kernel_rfl) (by kernel_rfl) (by kernel_rfl) (fun _ _ _ h => h) (Or.inr ⟨by rfl, rfl⟩) hHeld0 ?_
  (try simp only [oLb35, Act.put, List.setIfInBounds_toArray, List.set_cons_zero, List.set_cons_succ])
  refine wpAnyH_take (i := 36) (oi := oLb36) (v := undef) rfl (by kernel_rfl) (by kernel_rfl) (by kernel_rfl) (fun _ _ _ h => h) (Or.inr ⟨by rfl, rfl⟩) hHeld0 ?_
  (try simp only [oLb36, Act.put, List.setIfInBounds_toArray, List.set_cons_zero, List.set_cons_succ])
  refine wpAnyH_take (i := 37) (oi := oLb37) (v := .bool false) rfl (by kernel_rfl) (by kernel_rfl) (by kernel_rfl) (fun _ _ _ h => h) (Or.inl ⟨by rfl, ?_⟩) hHeld0 ?_
  · intro w' hSw; (try dsimp only at hSw); dsimp only [oLb37]; go_simp
  (try simp only [oLb37, Act.put, List.setIfInBounds_toArray, List.set_cons_zero, List.set_cons_succ])
  refine wpAnyH_take (i := 38) (oi := oLb38) (v := .bool false) rfl (by kernel_rfl) (by kernel_rfl) (by kernel_rfl) (fun _ _ _ h => h) (Or.inl ⟨by rfl, ?_⟩) hHeld0 ?_
  · intro w' hSw; (try dsimp only at hSw); dsimp only [oLb38]; go_simp
  (try simp only [oLb38, Act.put, List.setIfInBounds_toArray, List.set_cons_zero, List.set_cons_succ])
  refine wpAnyH_done (by kernel_rfl) ?_ _
  refine NoPanic.normal ?_
  clear hHeld0 s0_ s1_
  go_wp2_with fail
  refine bodyPost_ret (v := .bool (false)) (by simp [results, Try.results40, go_sem, bne]) rfl ?_
  exact ⟨ret_bool ((leaf_ldimpl3j_1 fk tk rr2 z1 z2).trans HT.out), bal3.drew⟩
set_option maxHeartbeats 4000000 in
theorem implLd3k (g l k0 g0 l0 k1 g1 l1 fk0 fk1 tk0 tk1 : Int) (b off fb fo tb to q fq tq : Nat) (a0 a1 fa0 fa1 ta0 ta1 : Option Addr) (n0 q0 n1 q1 fn0 fq0 fn1 fq1 tn0 tq0 tn1 tq1 : Nat) (r0 r1 : Bool) (w : World) (hq : 2 ≤ q) (hq2 : q ≤ 9223372036854775807) (hfq : 2 ≤ fq) (hfq2 : fq ≤ 9223372036854775807) (htq : 2 ≤ tq) (htq2 : tq ≤ 9223372036854775807) (e0 : w.cell? ⟨b, off, none⟩ = some (.int .i64 k0)) (e1 : w.cell? ⟨b, off + 1, none⟩ = some (.int .i64 g0)) (e2 : w.cell? ⟨b, off + 2, none⟩ = some (.int .i64 l0)) (e3 : w.cell? ⟨b, off + 3, none⟩ = some (.slice a0 n0 q0)) (d0 : w.cell? ⟨b, off + 4, none⟩ = some (.int .i64 k1)) (d1 : w.cell? ⟨b, off + 5, none⟩ = some (.int .i64 g1)) (d2 : w.cell? ⟨b, off + 6, none⟩ = some (.int .i64 l1)) (d3 : w.cell? ⟨b, off + 7, none⟩ = some (.slice a1 n1 q1)) (fe0 : w.cell? ⟨fb, fo, none⟩ = some (.int .i64 fk0)) (fe1 : w.cell? ⟨fb, fo + 1, none⟩ = some (.slice fa0 fn0 fq0)) (fe2 : w.cell? ⟨fb, fo + 2, none⟩ = some (.int .i64 fk1)) (fe3 : w.cell? ⟨fb, fo + 3, none⟩ = some (.slice fa1 fn1 fq1)) (te0 : w.cell? ⟨tb, to, none⟩ = some (.int .i64 tk0)) (te1 : w.cell? ⟨tb, to + 1, none⟩ = some (.slice ta0 tn0 tq0)) (te2 : w.cell? ⟨tb, to + 2, none⟩ = some (.int .i64 tk1)) (te3 : w.cell? ⟨tb, to + 3, none⟩ = some (.slice ta1 tn1 tq1)) (H0 : Hid (∀ W, Below w.heap.size w W → Calls Try.prog 40 #[.agg #[.int .i64 k0, .int .i64 g0, .int .i64 l0, .slice a0 n0 q0], .agg #[.int .i64 fk0, .slice fa0 fn0 fq0], .agg #[.int .i64 tk0, .slice ta0 tn0 tq0]] W fun e W' => e = .returned (.bool (r0)) ∧ Below W.heap.size W W')) (H1 : Hid (∀ W, Below w.heap.size w W → Calls Try.prog 40 #[.agg #[.int .i64 k1, .int .i64 g1, .int .i64 l1, .slice a1 n1 q1], .agg #[.int .i64 fk1, .slice fa1 fn1 fq1], .agg #[.int .i64 tk1, .slice ta1 tn1 tq1]] W fun e W' => e = .returned (.bool (r1)) ∧ Below W.heap.size W W')) :
    Calls Try.prog 40 #[.agg #[.int .i64 3, .int .i64 g, .int .i64 l, .slice (some ⟨b, off, none⟩) 2 q], .agg #[.int .i64 5, .slice (some ⟨fb, fo, none⟩) 2 fq], .agg #[.int .i64 5, .slice (some ⟨tb, to, none⟩) 2 tq]] w fun e w' => e = .returned (.bool (r0 && r1)) ∧ Below w.heap.size w w' := by
  obtain ⟨rr, hrr⟩ : ∃ rr0 : Bool, (r0 && r1) = rr0 := ⟨_, rfl⟩
  rw [hrr]
  have HT := Lib.hid hrr
  clear hrr
  have lb : b < w.heap.size := World.block_lt_of_cell? _ _ e0
  have lfb : fb < w.heap.size := World.block_lt_of_cell? _ _ fe0
  have ltb : tb < w.heap.size := World.block_lt_of_cell? _ _ te0
  have lb_1 : b < w.heap.size + 1 := by omega
  have lb_2 : b < w.heap.size + 1 + 1 := by omega
  have lfb_1 : fb < w.heap.size + 1 := by omega
  have lfb_2 : fb < w.heap.size + 1 + 1 := by omega
  have ltb_1 : tb < w.heap.size + 1 := by omega
  have ltb_2 : tb < w.heap.size + 1 + 1 := by omega
  go_enter Try.func40, Try.ntmps40
  rcases Bool.eq_false_or_eq_true (r0) with q1 | q1
  · have Hq1 := Lib.hid q1
    clear q1
    go_wp2_with fail
    have s0_ : (World.alloc (World.alloc (World.alloc w (Obj.cells #[.int .i64 3, .int .i64 g, .int .i64 l, .slice (some ⟨b, off, none⟩) 2 q] 28)) (Obj.cells #[.int .i64 5, .slice (some ⟨fb, fo, none⟩) 2 fq] 38)) (Obj.cells #[.int .i64 5, .slice (some ⟨tb, to, none⟩) 2 tq] 38)).cell? ⟨w.heap.size + 1, 0, none⟩ = some (.int .i64 5) := bcell bal1 (cell_new (by simp) 0)
    have s1_ : (World.alloc (World.alloc (World.alloc w (Obj.cells #[.int .i64 3, .int .i64 g, .int .i64 l, .slice (some ⟨b, off, none⟩) 2 q] 28)) (Obj.cells #[.int .i64 5, .slice (some ⟨fb, fo, none⟩) 2 fq] 38)) (Obj.cells #[.int .i64 5, .slice (some ⟨tb, to, none⟩) 2 tq] 38)).cell? ⟨w.heap.size + 1 + 1, 0, none⟩ = some (.int .i64 5) := cell_new (by simp) 0
    have s2_ : (World.alloc (World.alloc (World.alloc w (Obj.cells #[.int .i64 3, .int .i64 g, .int .i64 l, .slice (some ⟨b, off, none⟩) 2 q] 28)) (Obj.cells #[.int .i64 5, .slice (some ⟨fb, fo, none⟩) 2 fq] 38)) (Obj.cells #[.int .i64 5, .slice (some ⟨tb, to, none⟩) 2 tq] 38)).cell? ⟨w.heap.size, 3, none⟩ = some (.slice (some ⟨b, off, none⟩) 2 q) := bcell bal1 (bcell bal1 (cell_new (by simp) 3))
    have s3_ : (World.alloc (World.alloc (World.alloc w (Obj.cells #[.int .i64 3, .int .i64 g, .int .i64 l, .slice (some ⟨b, off, none⟩) 2 q] 28)) (Obj.cells #[.int .i64 5, .slice (some ⟨fb, fo, none⟩) 2 fq] 38)) (Obj.cells #[.int .i64 5, .slice (some ⟨tb, to, none⟩) 2 tq] 38)).cell? ⟨b, off, none⟩ = some (.int .i64 k0) := bcell bal1 (bcell bal1 (bcell bal1 (e0)))
    have s4_ : (World.alloc (World.alloc (World.alloc w (Obj.cells #[.int .i64 3, .int .i64 g, .int .i64 l, .slice (some ⟨b, off, none⟩) 2 q] 28)) (Obj.cells #[.int .i64 5, .slice (some ⟨fb, fo, none⟩) 2 fq] 38)) (Obj.cells #[.int .i64 5, .slice (some ⟨tb, to, none⟩) 2 tq] 38)).cell? ⟨b, off + 1, none⟩ = some (.int .i64 g0) := bcell bal1 (bcell bal1 (bcell bal1 (e1)))
    have s5_ : (World.alloc (World.alloc (World.alloc w (Obj.cells #[.int .i64 3, .int .i64 g, .int .i64 l, .slice (some ⟨b, off, none⟩) 2 q] 28)) (Obj.cells #[.int .i64 5, .slice (some ⟨fb, fo, none⟩) 2 fq] 38)) (Obj.cells #[.int .i64 5, .slice (some ⟨tb, to, none⟩) 2 tq] 38)).cell? ⟨b, off + 2, none⟩ = some (.int .i64 l0) := bcell bal1 (bcell bal1 (bcell bal1 (e2)))
    have s6_ : (World.alloc (World.alloc (World.alloc w (Obj.cells #[.int .i64 3, .int .i64 g, .int .i64 l, .slice (some ⟨b, off, none⟩) 2 q] 28)) (Obj.cells #[.int .i64 5, .slice (some ⟨fb, fo, none⟩) 2 fq] 38)) (Obj.cells #[.int .i64 5, .slice (some ⟨tb, to, none⟩) 2 tq] 38)).cell? ⟨b, off + 3, none⟩ = some (.slice a0 n0 q0) := bcell bal1 (bcell bal1 (bcell bal1 (e3)))
    have s7_ : (World.alloc (World.alloc (World.alloc w (Obj.cells #[.int .i64 3, .int .i64 g, .int .i64 l, .slice (some ⟨b, off, none⟩) 2 q] 28)) (Obj.cells #[.int .i64 5, .slice (some ⟨fb, fo, none⟩) 2 fq] 38)) (Obj.cells #[.int .i64 5, .slice (some ⟨tb, to, none⟩) 2 tq] 38)).cell? ⟨w.heap.size + 1, 1, none⟩ = some (.slice (some ⟨fb, fo, none⟩) 2 fq) := bcell bal1 (cell_new (by simp) 1)
    have s8_ : (World.alloc (World.alloc (World.alloc w (Obj.cells #[.int .i64 3, .int .i64 g, .int .i64 l, .slice (some ⟨b, off, none⟩) 2 q] 28)) (Obj.cells #[.int .i64 5, .slice (some ⟨fb, fo, none⟩) 2 fq] 38)) (Obj.cells #[.int .i64 5, .slice (some ⟨tb, to, none⟩) 2 tq] 38)).cell? ⟨fb, fo, none⟩ = some (.int .i64 fk0) := bcell bal1 (bcell bal1 (bcell bal1 (fe0)))
    have s9_ : (World.alloc (World.alloc (World.alloc w (Obj.cells #[.int .i64 3, .int .i64 g, .int .i64 l, .slice (some ⟨b, off, none⟩) 2 q] 28)) (Obj.cells #[.int .i64 5, .slice (some ⟨fb, fo, none⟩) 2 fq] 38)) (Obj.cells #[.int .i64 5, .slice (some ⟨tb, to, none⟩) 2 tq] 38)).cell? ⟨fb, fo + 1, none⟩ = some (.slice fa0 fn0 fq0) := bcell bal1 (bcell bal1 (bcell bal1 (fe1)))
    have s10_ : (World.alloc (World.alloc (World.alloc w (Obj.cells #[.int .i64 3, .int .i64 g, .int .i64 l, .slice (some ⟨b, off, none⟩) 2 q] 28)) (Obj.cells #[.int .i64 5, .slice (some ⟨fb, fo, none⟩) 2 fq] 38)) (Obj.cells #[.int .i64 5, .slice (some ⟨tb, to, none⟩) 2 tq] 38)).cell? ⟨w.heap.size + 1 + 1, 1, none⟩ = some (.slice (some ⟨tb, to, none⟩) 2 tq) := cell_new (by simp) 1
    have s11_ : (World.alloc (World.alloc (World.alloc w (Obj.cells #[.int .i64 3, .int .i64 g, .int .i64 l, .slice (some ⟨b, off, none⟩) 2 q] 28)) (Obj.cells #[.int .i64 5, .slice (some ⟨fb, fo, none⟩) 2 fq] 38)) (Obj.cells #[.int .i64 5, .slice (some ⟨tb, to, none⟩) 2 tq] 38)).cell? ⟨tb, to, none⟩ = some (.int .i64 tk0) := bcell bal1 (bcell bal1 (bcell bal1 (te0)))
    have s12_ : (World.alloc (World.alloc (World.alloc w (Obj.cells #[.int .i64 3, .int .i64 g, .int .i64 l, .slice (some ⟨b, off, none⟩) 2 q] 28)) (Obj.cells #[.int .i64 5, .slice (some ⟨fb, fo, none⟩) 2 fq] 38)) (Obj.cells #[.int .i64 5, .slice (some ⟨tb, to, none⟩) 2 tq] 38)).cell? ⟨tb, to + 1, none⟩ = some (.slice ta0 tn0 tq0) := bcell bal1 (bcell bal1 (bcell bal1 (te1)))
    have s13_ : (World.alloc (World.alloc (World.alloc w (Obj.cells #[.int .i64 3, .int .i64 g, .int .i64 l, .slice (some ⟨b, off, none⟩) 2 q] 28)) (Obj.cells #[.int .i64 5, .slice (some ⟨fb, fo, none⟩) 2 fq] 38)) (Obj.cells #[.int .i64 5, .slice (some ⟨tb, to, none⟩) 2 tq] 38)).cell? ⟨b, off + 4, none⟩ = some (.int .i64 k1) := bcell bal1 (bcell bal1 (bcell bal1 (d0)))
    have s14_ : (World.alloc (World.alloc (World.alloc w (Obj.cells #[.int .i64 3, .int .i64 g, .int .i64 l, .slice (some ⟨b, off, none⟩) 2 q] 28)) (Obj.cells #[.int .i64 5, .slice (some ⟨fb, fo, none⟩) 2 fq] 38)) (Obj.cells #[.int .i64 5, .slice (some ⟨tb, to, none⟩) 2 tq] 38)).cell? ⟨b, off + 5, none⟩ = some (.int .i64 g1) := bcell bal1 (bcell bal1 (bcell bal1 (d1)))
    have s15_ : (World.alloc (World.alloc (World.alloc w (Obj.cells #[.int .i64 3, .int .i64 g, .int .i64 l, .slice (some ⟨b, off, none⟩) 2 q] 28)) (Obj.cells #[.int .i64 5, .slice (some ⟨fb, fo, none⟩) 2 fq] 38)) (Obj.cells #[.int .i64 5, .slice (some ⟨tb, to, none⟩) 2 tq] 38)).cell? ⟨b, off + 6, none⟩ = some (.int .i64 l1) := bcell bal1 (bcell bal1 (bcell bal1 (d2)))
    have s16_ : (World.alloc (World.alloc (World.alloc w (Obj.cells #[.int .i64 3, .int .i64 g, .int .i64 l, .slice (some ⟨b, off, none⟩) 2 q] 28)) (Obj.cells #[.int .i64 5, .slice (some ⟨fb, fo, none⟩) 2 fq] 38)) (Obj.cells #[.int .i64 5, .slice (some ⟨tb, to, none⟩) 2 tq] 38)).cell? ⟨b, off + 7, none⟩ = some (.slice a1 n1 q1) := bcell bal1 (bcell bal1 (bcell bal1 (d3)))
    have s17_ : (World.alloc (World.alloc (World.alloc w (Obj.cells #[.int .i64 3, .int .i64 g, .int .i64 l, .slice (some ⟨b, off, none⟩) 2 q] 28)) (Obj.cells #[.int .i64 5, .slice (some ⟨fb, fo, none⟩) 2 fq] 38)) (Obj.cells #[.int .i64 5, .slice (some ⟨tb, to, none⟩) 2 tq] 38)).cell? ⟨fb, fo + 2, none⟩ = some (.int .i64 fk1) := bcell bal1 (bcell bal1 (bcell bal1 (fe2)))
    have s18_ : (World.alloc (World.alloc (World.alloc w (Obj.cells #[.int .i64 3, .int .i64 g, .int .i64 l, .slice (some ⟨b, off, none⟩) 2 q] 28)) (Obj.cells #[.int .i64 5, .slice (some ⟨fb, fo, none⟩) 2 fq] 38)) (Obj.cells #[.int .i64 5, .slice (some ⟨tb, to, none⟩) 2 tq] 38)).cell? ⟨fb, fo + 3, none⟩ = some (.slice fa1 fn1 fq1) := bcell bal1 (bcell bal1 (bcell bal1 (fe3)))
    have s19_ : (World.alloc (World.alloc (World.alloc w (Obj.cells #[.int .i64 3, .int .i64 g, .int .i64 l, .slice (some ⟨b, off, none⟩) 2 q] 28)) (Obj.cells #[.int .i64 5, .slice (some ⟨fb, fo, none⟩) 2 fq] 38)) (Obj.cells #[.int .i64 5, .slice (some ⟨tb, to, none⟩) 2 tq] 38)).cell? ⟨tb, to + 2, none⟩ = some (.int .i64 tk1) := bcell bal1 (bcell bal1 (bcell bal1 (te2)))
    have s20_ : (World.alloc (World.alloc (World.alloc w (Obj.cells #[.int .i64 3, .int .i64 g, .int .i64 l, .slice (some ⟨b, off, none⟩) 2 q] 28)) (Obj.cells #[.int .i64 5, .slice (some ⟨fb, fo, none⟩) 2 fq] 38)) (Obj.cells #[.int .i64 5, .slice (some ⟨tb, to, none⟩) 2 tq] 38)).cell? ⟨tb, to + 3, none⟩ = some (.slice ta1 tn1 tq1) := bcell bal1 (bcell bal1 (bcell bal1 (te3)))
    have hS0 := Lib.hid (show (World.drew (World.alloc (World.alloc (World.alloc w (Obj.cells #[.int .i64 3, .int .i64 g, .int .i64 l, .slice (some ⟨b, off, none⟩) 2 q] 28)) (Obj.cells #[.int .i64 5, .slice (some ⟨fb, fo, none⟩) 2 fq] 38)) (Obj.cells #[.int .i64 5, .slice (some ⟨tb, to, none⟩) 2 tq] 38))).cell? ⟨w.heap.size + 1, 0, none⟩ = some (.int .i64 5) ∧ (World.drew (World.alloc (World.alloc (World.alloc w (Obj.cells #[.int .i64 3, .int .i64 g, .int .i64 l, .slice (some ⟨b, off, none⟩) 2 q] 28)) (Obj.cells #[.int .i64 5, .slice (some ⟨fb, fo, none⟩) 2 fq] 38)) (Obj.cells #[.int .i64 5, .slice (some ⟨tb, to, none⟩) 2 tq] 38))).cell? ⟨w.heap.size + 1 + 1, 0, none⟩ = some (.int .i64 5) ∧ (World.drew (World.alloc (World.alloc (World.alloc w (Obj.cells #[.int .i64 3, .int .i64 g, .int .i64 l, .slice (some ⟨b, off, none⟩) 2 q] 28)) (Obj.cells #[.int .i64 5, .slice (some ⟨fb, fo, none⟩) 2 fq] 38)) (Obj.cells #[.int .i64 5, .slice (some ⟨tb, to, none⟩) 2 tq] 38))).cell? ⟨w.heap.size, 3, none⟩ = some (.slice (some ⟨b, off, none⟩) 2 q) ∧ (World.drew (World.alloc (World.alloc (World.alloc w (Obj.cells #[.int .i64 3, .int .i64 g, .int .i64 l, .slice (some ⟨b, off, none⟩) 2 q] 28)) (Obj.cells #[.int .i64 5, .slice (some ⟨fb, fo, none⟩) 2 fq] 38)) (Obj.cells #[.int .i64 5, .slice (some ⟨tb, to, none⟩) 2 tq] 38))).cell? ⟨b, off, none⟩ = some (.int .i64 k0) ∧ (World.drew (World.alloc (World.alloc (World.alloc w (Obj.cells #[.int .i64 3, .int .i64 g, .int .i64 l, .slice (some ⟨b, off, none⟩) 2 q] 28)) (Obj.cells #[.int .i64 5, .slice (some ⟨fb, fo, none⟩) 2 fq] 38)) (Obj.cells #[.int .i64 5, .slice (some ⟨tb, to, none⟩) 2 tq] 38))).cell? ⟨b, off + 1, none⟩ = some (.int .i64 g0) ∧ (World.drew (World.alloc (World.alloc (World.alloc w (Obj.cells #[.int .i64 3, .int .i64 g, .int .i64 l, .slice (some ⟨b, off, none⟩) 2 q] 28)) (Obj.cells #[.int .i64 5, .slice (some ⟨fb, fo, none⟩) 2 fq] 38)) (Obj.cells #[.int .i64 5, .slice (some ⟨tb, to, none⟩) 2 tq] 38))).cell? ⟨b, off + 2, none⟩ = some (.int .i64 l0) ∧ (World.drew (World.alloc (World.alloc (World.alloc w (Obj.cells #[.int .i64 3, .int .i64 g, .int .i64 l, .slice (some ⟨b, off, none⟩) 2 q] 28)) (Obj.cells #[.int .i64 5, .slice (some ⟨fb, fo, none⟩) 2 fq] 38)) (Obj.cells #[.int .i64 5, .slice (some ⟨tb, to, none⟩) 2 tq] 38))).cell? ⟨b, off + 3, none⟩ = some (.slice a0 n0 q0) ∧ (World.drew (World.alloc (World.alloc (World.alloc w (Obj.cells #[.int .i64 3, .int .i64 g, .int .i64 l, .slice (some ⟨b, off, none⟩) 2 q] 28)) (Obj.cells #[.int .i64 5, .slice (some ⟨fb, fo, none⟩) 2 fq] 38)) (Obj.cells #[.int .i64 5, .slice (some ⟨tb, to, none⟩) 2 tq] 38))).cell? ⟨w.heap.size + 1, 1, none⟩ = some (.slice (some ⟨fb, fo, none⟩) 2 fq) ∧ (World.drew (World.alloc (World.alloc (World.alloc w (Obj.cells #[.int .i64 3, .int .i64 g, .int .i64 l, .slice (some ⟨b, off, none⟩) 2 q] 28)) (Obj.cells #[.int .i64 5, .slice (some ⟨fb, fo, none⟩) 2 fq] 38)) (Obj.cells #[.int .i64 5, .slice (some ⟨tb, to, none⟩) 2 tq] 38))).cell? ⟨fb, fo, none⟩ = some (.int .i64 fk0) ∧ (World.drew (World.alloc (World.alloc (World.alloc w (Obj.cells #[.int .i64 3, .int .i64 g, .int .i64 l, .slice (some ⟨b, off, none⟩) 2 q] 28)) (Obj.cells #[.int .i64 5, .slice (some ⟨fb, fo, none⟩) 2 fq] 38)) (Obj.cells #[.int .i64 5, .slice (some ⟨tb, to, none⟩) 2 tq] 38))).cell? ⟨fb, fo + 1, none⟩ = some (.slice fa0 fn0 fq0) ∧ (World.drew (World.alloc (World.alloc (World.alloc w (Obj.cells #[.int .i64 3, .int .i64 g, .int .i64 l, .slice (some ⟨b, off, none⟩) 2 q] 28)) (Obj.cells #[.int .i64 5, .slice (some ⟨fb, fo, none⟩) 2 fq] 38)) (Obj.cells #[.int .i64 5, .slice (some ⟨tb, to, none⟩) 2 tq] 38))).cell? ⟨w.heap.size + 1 + 1, 1, none⟩ = some (.slice (some ⟨tb, to, none⟩) 2 tq) ∧ (World.drew (World.alloc (World.alloc (World.alloc w (Obj.cells #[.int .i64 3, .int .i64 g, .int .i64 l, .slice (some ⟨b, off, none⟩) 2 q] 28)) (Obj.cells #[.int .i64 5, .slice (some ⟨fb, fo, none⟩) 2 fq] 38)) (Obj.cells #[.int .i64 5, .slice (some ⟨tb, to, none⟩) 2 tq] 38))).cell? ⟨tb, to, none⟩ = some (.int .i64 tk0) ∧ (World.drew (World.alloc (World.alloc (World.alloc w (Obj.cells #[.int .i64 3, .int .i64 g, .int .i64 l, .slice (some ⟨b, off, none⟩) 2 q] 28)) (Obj.cells #[.int .i64 5, .slice (some ⟨fb, fo, none⟩) 2 fq] 38)) (Obj.cells #[.int .i64 5, .slice (some ⟨tb, to, none⟩) 2 tq] 38))).cell? ⟨tb, to + 1, none⟩ = some (.slice ta0 tn0 tq0) ∧ (World.drew (World.alloc (World.alloc (World.alloc w (Obj.cells #[.int .i64 3, .int .i64 g, .int .i64 l, .slice (some ⟨b, off, none⟩) 2 q] 28)) (Obj.cells #[.int .i64 5, .slice (some ⟨fb, fo, none⟩) 2 fq] 38)) (Obj.cells #[.int .i64 5, .slice (some ⟨tb, to, none⟩) 2 tq] 38))).cell? ⟨b, off + 4, none⟩ = some (.int .i64 k1) ∧ (World.drew (World.alloc (World.alloc (World.alloc w (Obj.cells #[.int .i64 3, .int .i64 g, .int .i64 l, .slice (some ⟨b, off, none⟩) 2 q] 28)) (Obj.cells #[.int .i64 5, .slice (some ⟨fb, fo, none⟩) 2 fq] 38)) (Obj.cells #[.int .i64 5, .slice (some ⟨tb, to, none⟩) 2 tq] 38))).cell? ⟨b, off + 5, none⟩ = some (.int .i64 g1) ∧ (World.drew (World.alloc (World.alloc (World.alloc w (Obj.cells #[.int .i64 3, .int .i64 g, .int .i64 l, .slice (some ⟨b, off, none⟩) 2 q] 28)) (Obj.cells #[.int .i64 5, .slice (some ⟨fb, fo, none⟩) 2 fq] 38)) (Obj.cells #[.int .i64 5, .slice (some ⟨tb, to, none⟩) 2 tq] 38))).cell? ⟨b, off + 6, none⟩ = some (.int .i64 l1) ∧ (World.drew (World.alloc (World.alloc (World.alloc w (Obj.cells #[.int .i64 3, .int .i64 g, .int .i64 l, .slice (some ⟨b, off, none⟩) 2 q] 28)) (Obj.cells #[.int .i64 5, .slice (some ⟨fb, fo, none⟩) 2 fq] 38)) (Obj.cells #[.int .i64 5, .slice (some ⟨tb, to, none⟩) 2 tq] 38))).cell? ⟨b, off + 7, none⟩ = some (.slice a1 n1 q1) ∧ (World.drew (World.alloc (World.alloc (World.alloc w (Obj.cells #[.int .i64 3, .int .i64 g, .int .i64 l, .slice (some ⟨b, off, none⟩) 2 q] 28)) (Obj.cells #[.int .i64 5, .slice (some ⟨fb, fo, none⟩) 2 fq] 38)) (Obj.cells #[.int .i64 5, .slice (some ⟨tb, to, none⟩) 2 tq] 38))).cell? ⟨fb, fo + 2, none⟩ = some (.int .i64 fk1) ∧ (World.drew (World.alloc (World.alloc (World.alloc w (Obj.cells #[.int .i64 3, .int .i64 g, .int .i64 l, .slice (some ⟨b, off, none⟩) 2 q] 28)) (Obj.cells #[.int .i64 5, .slice (some ⟨fb, fo, none⟩) 2 fq] 38)) (Obj.cells #[.int .i64 5, .slice (some ⟨tb, to, none⟩) 2 tq] 38))).cell? ⟨fb, fo + 3, none⟩ = some (.slice fa1 fn1 fq1) ∧ (World.drew (World.alloc (World.alloc (World.alloc w (Obj.cells #[.int .i64 3, .int .i64 g, .int .i64 l, .slice (some ⟨b, off, none⟩) 2 q] 28)) (Obj.cells #[.int .i64 5, .slice (some ⟨fb, fo, none⟩) 2 fq] 38)) (Obj.cells #[.int .i64 5, .slice (some ⟨tb, to, none⟩) 2 tq] 38))).cell? ⟨tb, to + 2, none⟩ = some (.int .i64 tk1) ∧ (World.drew (World.alloc (World.alloc (World.alloc w (Obj.cells #[.int .i64 3, .int .i64 g, .int .i64 l, .slice (some ⟨b, off, none⟩) 2 q] 28)) (Obj.cells #[.int .i64 5, .slice (some ⟨fb, fo, none⟩) 2 fq] 38)) (Obj.cells #[.int .i64 5, .slice (some ⟨tb, to, none⟩) 2 tq] 38))).cell? ⟨tb, to + 3, none⟩ = some (.slice ta1 tn1 tq1) from ⟨dcell (s0_), dcell (s1_), dcell (s2_), dcell (s3_), dcell (s4_), dcell (s5_), dcell (s6_), dcell (s7_), dcell (s8_), dcell (s9_), dcell (s10_), dcell (s11_), dcell (s12_), dcell (s13_), dcell (s14_), dcell (s15_), dcell (s16_), dcell (s17_), dcell (s18_), dcell (s19_), dcell (s20_)⟩)
    have hSb := Lib.hid (show ∀ X Y : World, Below X.heap.size X Y → (X.cell? ⟨w.heap.size + 1, 0, none⟩ = some (.int .i64 5) ∧ X.cell? ⟨w.heap.size + 1 + 1, 0, none⟩ = some (.int .i64 5) ∧ X.cell? ⟨w.heap.size, 3, none⟩ = some (.slice (some ⟨b, off, none⟩) 2 q) ∧ X.cell? ⟨b, off, none⟩ = some (.int .i64 k0) ∧ X.cell? ⟨b, off + 1, none⟩ = some (.int .i64 g0) ∧ X.cell? ⟨b, off + 2, none⟩ = some (.int .i64 l0) ∧ X.cell? ⟨b, off + 3, none⟩ = some (.slice a0 n0 q0) ∧ X.cell? ⟨w.heap.size + 1, 1, none⟩ = some (.slice (some ⟨fb, fo, none⟩) 2 fq) ∧ X.cell? ⟨fb, fo, none⟩ = some (.int .i64 fk0) ∧ X.cell? ⟨fb, fo + 1, none⟩ = some (.slice fa0 fn0 fq0) ∧ X.cell? ⟨w.heap.size + 1 + 1, 1, none⟩ = some (.slice (some ⟨tb, to, none⟩) 2 tq) ∧ X.cell? ⟨tb, to, none⟩ = some (.int .i64 tk0) ∧ X.cell? ⟨tb, to + 1, none⟩ = some (.slice ta0 tn0 tq0) ∧ X.cell? ⟨b, off + 4, none⟩ = some (.int .i64 k1) ∧ X.cell? ⟨b, off + 5, none⟩ = some (.int .i64 g1) ∧ X.cell? ⟨b, off + 6, none⟩ = some (.int .i64 l1) ∧ X.cell? ⟨b, off + 7, none⟩ = some (.slice a1 n1 q1) ∧ X.cell? ⟨fb, fo + 2, none⟩ = some (.int .i64 fk1) ∧ X.cell? ⟨fb, fo + 3, none⟩ = some (.slice fa1 fn1 fq1) ∧ X.cell? ⟨tb, to + 2, none⟩ = some (.int .i64 tk1) ∧ X.cell? ⟨tb, to + 3, none⟩ = some (.slice ta1 tn1 tq1)) → (Y.cell? ⟨w.heap.size + 1, 0, none⟩ = some (.int .i64 5) ∧ Y.cell? ⟨w.heap.size + 1 + 1, 0, none⟩ = some (.int .i64 5) ∧ Y.cell? ⟨w.heap.size, 3, none⟩ = some (.slice (some ⟨b, off, none⟩) 2 q) ∧ Y.cell? ⟨b, off, none⟩ = some (.int .i64 k0) ∧ Y.cell? ⟨b, off + 1, none⟩ = some (.int .i64 g0) ∧ Y.cell? ⟨b, off + 2, none⟩ = some (.int .i64 l0) ∧ Y.cell? ⟨b, off + 3, none⟩ = some (.slice a0 n0 q0) ∧ Y.cell? ⟨w.heap.size + 1, 1, none⟩ = some (.slice (some ⟨fb, fo, none⟩) 2 fq) ∧ Y.cell? ⟨fb, fo, none⟩ = some (.int .i64 fk0) ∧ Y.cell? ⟨fb, fo + 1, none⟩ = some (.slice fa0 fn0 fq0) ∧ Y.cell? ⟨w.heap.size + 1 + 1, 1, none⟩ = some (.slice (some ⟨tb, to, none⟩) 2 tq) ∧ Y.cell? ⟨tb, to, none⟩ = some (.int .i64 tk0) ∧ Y.cell? ⟨tb, to + 1, none⟩ = some (.slice ta0 tn0 tq0) ∧ Y.cell? ⟨b, off + 4, none⟩ = some (.int .i64 k1) ∧ Y.cell? ⟨b, off + 5, none⟩ = some (.int .i64 g1) ∧ Y.cell? ⟨b, off + 6, none⟩ = some (.int .i64 l1) ∧ Y.cell? ⟨b, off + 7, none⟩ = some (.slice a1 n1 q1) ∧ Y.cell? ⟨fb, fo + 2, none⟩ = some (.int .i64 fk1) ∧ Y.cell? ⟨fb, fo + 3, none⟩ = some (.slice fa1 fn1 fq1) ∧ Y.cell? ⟨tb, to + 2, none⟩ = some (.int .i64 tk1) ∧ Y.cell? ⟨tb, to + 3, none⟩ = some (.slice ta1 tn1 tq1)) from fun X Y h s => ⟨bcell h s.1, bcell h s.2.1, bcell h s.2.2.1, bcell h s.2.2.2.1, bcell h s.2.2.2.2.1, bcell h s.2.2.2.2.2.1, bcell h s.2.2.2.2.2.2.1, bcell h s.2.2.2.2.2.2.2.1, bcell h s.2.2.2.2.2.2.2.2.1, bcell h s.2.2.2.2.2.2.2.2.2.1, bcell h s.2.2.2.2.2.2.2.2.2.2.1, bcell h s.2.2.2.2.2.2.2.2.2.2.2.1, bcell h s.2.2.2.2.2.2.2.2.2.2.2.2.1, bcell h s.2.2.2.2.2.2.2.2.2.2.2.2.2.1, bcell h s.2.2.2.2.2.2.2.2.2.2.2.2.2.2.1, bcell h s.2.2.2.2.2.2.2.2.2.2.2.2.2.2.2.1, bcell h s.2.2.2.2.2.2.2.2.2.2.2.2.2.2.2.2.1, bcell h s.2.2.2.2.2.2.2.2.2.2.2.2.2.2.2.2.2.1, bcell h s.2.2.2.2.2.2.2.2.2.2.2.2.2.2.2.2.2.2.1, bcell h s.2.2.2.2.2.2.2.2.2.2.2.2.2.2.2.2.2.2.2.1, bcell h s.2.2.2.2.2.2.2.2.2.2.2.2.2.2.2.2.2.2.2.2⟩)
    go_region_held3 (fun w' => w'.cell? ⟨w.heap.size + 1, 0, none⟩ = some (.int .i64 5) ∧ w'.cell? ⟨w.heap.size + 1 + 1, 0, none⟩ = some (.int .i64 5) ∧ w'.cell? ⟨w.heap.size, 3, none⟩ = some (.slice (some ⟨b, off, none⟩) 2 q) ∧ w'.cell? ⟨b, off, none⟩ = some (.int .i64 k0) ∧ w'.cell? ⟨b, off + 1, none⟩ = some (.int .i64 g0) ∧ w'.cell? ⟨b, off + 2, none⟩ = some (.int .i64 l0) ∧ w'.cell? ⟨b, off + 3, none⟩ = some (.slice a0 n0 q0) ∧ w'.cell? ⟨w.heap.size + 1, 1, none⟩ = some (.slice (some ⟨fb, fo, none⟩) 2 fq) ∧ w'.cell? ⟨fb, fo, none⟩ = some (.int .i64 fk0) ∧ w'.cell? ⟨fb, fo + 1, none⟩ = some (.slice fa0 fn0 fq0) ∧ w'.cell? ⟨w.heap.size + 1 + 1, 1, none⟩ = some (.slice (some ⟨tb, to, none⟩) 2 tq) ∧ w'.cell? ⟨tb, to, none⟩ = some (.int .i64 tk0) ∧ w'.cell? ⟨tb, to + 1, none⟩ = some (.slice ta0 tn0 tq0) ∧ w'.cell? ⟨b, off + 4, none⟩ = some (.int .i64 k1) ∧ w'.cell? ⟨b, off + 5, none⟩ = some (.int .i64 g1) ∧ w'.cell? ⟨b, off + 6, none⟩ = some (.int .i64 l1) ∧ w'.cell? ⟨b, off + 7, none⟩ = some (.slice a1 n1 q1) ∧ w'.cell? ⟨fb, fo + 2, none⟩ = some (.int .i64 fk1) ∧ w'.cell? ⟨fb, fo + 3, none⟩ = some (.slice fa1 fn1 fq1) ∧ w'.cell? ⟨tb, to + 2, none⟩ = some (.int .i64 tk1) ∧ w'.cell? ⟨tb, to + 3, none⟩ = some (.slice ta1 tn1 tq1))
      (repeat (first | with_reducible refine hSb.out _ _ hb2 ?_ | with_reducible refine hSb.out _ _ hb1 ?_ | with_reducible exact hS0.out))
      (first | (go_at_call 40; ((with_reducible refine (H0.out _ bal3.drew).mono ?_); rintro e w1 ⟨rfl, hb1⟩; rw [Hq1.out])) | (go_at_call 40; ((with_reducible refine (H1.out _ (bstep bal3.drew hb1)).mono ?_); rintro e w2 ⟨rfl, hb2⟩)))
    clear s0_ s1_ s2_ s3_ s4_ s5_ s6_ s7_ s8_ s9_ s10_ s11_ s12_ s13_ s14_ s15_ s16_ s17_ s18_ s19_ s20_
    have hB := (bstep (bstep bal3.drew hb1) hb2)
    have zw2 := hB.size
    go_wp2_with fail
    refine bodyPost_ret (v := .bool (r1)) (by simp [results, Try.results40, go_sem, bne]) rfl ?_
    exact ⟨ret_bool ((leaf_ldimpl3k_2 r0 r1 Hq1.out).trans HT.out), hB⟩
  · have Hq1 := Lib.hid q1
    clear q1
    go_wp2_with fail
    have s0_ : (World.alloc (World.alloc (World.alloc w (Obj.cells #[.int .i64 3, .int .i64 g, .int .i64 l, .slice (some ⟨b, off, none⟩) 2 q] 28)) (Obj.cells #[.int .i64 5, .slice (some ⟨fb, fo, none⟩) 2 fq] 38)) (Obj.cells #[.int .i64 5, .slice (some ⟨tb, to, none⟩) 2 tq] 38)).cell? ⟨w.heap.size + 1, 0, none⟩ = some (.int .i64 5) := bcell bal1 (cell_new (by simp) 0)
    have s1_ : (World.alloc (World.alloc (World.alloc w (Obj.cells #[.int .i64 3, .int .i64 g, .int .i64 l, .slice (some ⟨b, off, none⟩) 2 q] 28)) (Obj.cells #[.int .i64 5, .slice (some ⟨fb, fo, none⟩) 2 fq] 38)) (Obj.cells #[.int .i64 5, .slice (some ⟨tb, to, none⟩) 2 tq] 38)).cell? ⟨w.heap.size + 1 + 1, 0, none⟩ = some (.int .i64 5) := cell_new (by simp) 0
    have s2_ : (World.alloc (World.alloc (World.alloc w (Obj.cells #[.int .i64 3, .int .i64 g, .int .i64 l, .slice (some ⟨b, off, none⟩) 2 q] 28)) (Obj.cells #[.int .i64 5, .slice (some ⟨fb, fo, none⟩) 2 fq] 38)) (Obj.cells #[.int .i64 5, .slice (some ⟨tb, to, none⟩) 2 tq] 38)).cell? ⟨w.heap.size, 3, none⟩ = some (.slice (some ⟨b, off, none⟩) 2 q) := bcell bal1 (bcell bal1 (cell_new (by simp) 3))
    have s3_ : (World.alloc (World.alloc (World.alloc w (Obj.cells #[.int .i64 3, .int .i64 g, .int .i64 l, .slice (some ⟨b, off, none⟩) 2 q] 28)) (Obj.cells #[.int .i64 5, .slice (some ⟨fb, fo, none⟩) 2 fq] 38)) (Obj.cells #[.int .i64 5, .slice (some ⟨tb, to, none⟩) 2 tq] 38)).cell? ⟨b, off, none⟩ = some (.int .i64 k0) := bcell bal1 (bcell bal1 (bcell bal1 (e0)))
    have s4_ : (World.alloc (World.alloc (World.alloc w (Obj.cells #[.int .i64 3, .int .i64 g, .int .i64 l, .slice (some ⟨b, off, none⟩) 2 q] 28)) (Obj.cells #[.int .i64 5, .slice (some ⟨fb, fo, none⟩) 2 fq] 38)) (Obj.cells #[.int .i64 5, .slice (some ⟨tb, to, none⟩) 2 tq] 38)).cell? ⟨b, off + 1, none⟩ = some (.int .i64 g0) := bcell bal1 (bcell bal1 (bcell bal1 (e1)))
    have s5_ : (World.alloc (World.alloc (World.alloc w (Obj.cells #[.int .i64 3, .int .i64 g, .int .i64 l, .slice (some ⟨b, off, none⟩) 2 q] 28)) (Obj.cells #[.int .i64 5, .slice (some ⟨fb, fo, none⟩) 2 fq] 38)) (Obj.cells #[.int .i64 5, .slice (some ⟨tb, to, none⟩) 2 tq] 38)).cell? ⟨b, off + 2, none⟩ = some (.int .i64 l0) := bcell bal1 (bcell bal1 (bcell bal1 (e2)))
    have s6_ : (World.alloc (World.alloc (World.alloc w (Obj.cells #[.int .i64 3, .int .i64 g, .int .i64 l, .slice (some ⟨b, off, none⟩) 2 q] 28)) (Obj.cells #[.int .i64 5, .slice (some ⟨fb, fo, none⟩) 2 fq] 38)) (Obj.cells #[.int .i64 5, .slice (some ⟨tb, to, none⟩) 2 tq] 38)).cell? ⟨b, off + 3, none⟩ = some (.slice a0 n0 q0) := bcell bal1 (bcell bal1 (bcell bal1 (e3)))
    have s7_ : (World.alloc (World.alloc (World.alloc w (Obj.cells #[.int .i64 3, .int .i64 g, .int .i64 l, .slice (some ⟨b, off, none⟩) 2 q] 28)) (Obj.cells #[.int .i64 5, .slice (some ⟨fb, fo, none⟩) 2 fq] 38)) (Obj.cells #[.int .i64 5, .slice (some ⟨tb, to, none⟩) 2 tq] 38)).cell? ⟨w.heap.size + 1, 1, none⟩ = some (.slice (some ⟨fb, fo, none⟩) 2 fq) := bcell bal1 (cell_new (by simp) 1)
    have s8_ : (World.alloc (World.alloc (World.alloc w (Obj.cells #[.int .i64 3, .int .i64 g, .int .i64 l, .slice (some ⟨b, off, none⟩) 2 q] 28)) (Obj.cells #[.int .i64 5, .slice (some ⟨fb, fo, none⟩) 2 fq] 38)) (Obj.cells #[.int .i64 5, .slice (some ⟨tb, to, none⟩) 2 tq] 38)).cell? ⟨fb, fo, none⟩ = some (.int .i64 fk0) := bcell bal1 (bcell bal1 (bcell bal1 (fe0)))
    have s9_ : (World.alloc (World.alloc (World.alloc w (Obj.cells #[.int .i64 3, .int .i64 g, .int .i64 l, .slice (some ⟨b, off, none⟩) 2 q] 28)) (Obj.cells #[.int .i64 5, .slice (some ⟨fb, fo, none⟩) 2 fq] 38)) (Obj.cells #[.int .i64 5, .slice (some ⟨tb, to, none⟩) 2 tq] 38)).cell? ⟨fb, fo + 1, none⟩ = some (.slice fa0 fn0 fq0) := bcell bal1 (bcell bal1 (bcell bal1 (fe1)))
    have s10_ : (World.alloc (World.alloc (World.alloc w (Obj.cells #[.int .i64 3, .int .i64 g, .int .i64 l, .slice (some ⟨b, off, none⟩) 2 q] 28)) (Obj.cells #[.int .i64 5, .slice (some ⟨fb, fo, none⟩) 2 fq] 38)) (Obj.cells #[.int .i64 5, .slice (some ⟨tb, to, none⟩) 2 tq] 38)).cell? ⟨w.heap.size + 1 + 1, 1, none⟩ = some (.slice (some ⟨tb, to, none⟩) 2 tq) := cell_new (by simp) 1
    have s11_ : (World.alloc (World.alloc (World.alloc w (Obj.cells #[.int .i64 3, .int .i64 g, .int .i64 l, .slice (some ⟨b, off, none⟩) 2 q] 28)) (Obj.cells #[.int .i64 5, .slice (some ⟨fb, fo, none⟩) 2 fq] 38)) (Obj.cells #[.int .i64 5, .slice (some ⟨tb, to, none⟩) 2 tq] 38)).cell? ⟨tb, to, none⟩ = some (.int .i64 tk0) := bcell bal1 (bcell bal1 (bcell bal1 (te0)))
    have s12_ : (World.alloc (World.alloc (World.alloc w (Obj.cells #[.int .i64 3, .int .i64 g, .int .i64 l, .slice (some ⟨b, off, none⟩) 2 q] 28)) (Obj.cells #[.int .i64 5, .slice (some ⟨fb, fo, none⟩) 2 fq] 38)) (Obj.cells #[.int .i64 5, .slice (some ⟨tb, to, none⟩) 2 tq] 38)).cell? ⟨tb, to + 1, none⟩ = some (.slice ta0 tn0 tq0) := bcell bal1 (bcell bal1 (bcell bal1 (te1)))
    refine wp_region_noPanic ?_
    refine wp_region_held_drew (S := fun w' => w'.cell? ⟨w.heap.size + 1, 0, none⟩ = some (.int .i64 5) ∧ w'.cell? ⟨w.heap.size + 1 + 1, 0, none⟩ = some (.int .i64 5) ∧ w'.cell? ⟨w.heap.size, 3, none⟩ = some (.slice (some ⟨b, off, none⟩) 2 q) ∧ w'.cell? ⟨b, off, none⟩ = some (.int .i64 k0) ∧ w'.cell? ⟨b, off + 1, none⟩ = some (.int .i64 g0) ∧ w'.cell? ⟨b, off + 2, none⟩ = some (.int .i64 l0) ∧ w'.cell? ⟨b, off + 3, none⟩ = some (.slice a0 n0 q0) ∧ w'.cell? ⟨w.heap.size + 1, 1, none⟩ = some (.slice (some ⟨fb, fo, none⟩) 2 fq) ∧ w'.cell? ⟨fb, fo, none⟩ = some (.int .i64 fk0) ∧ w'.cell? ⟨fb, fo + 1, none⟩ = some (.slice fa0 fn0 fq0) ∧ w'.cell? ⟨w.heap.size + 1 + 1, 1, none⟩ = some (.slice (some ⟨tb, to, none⟩) 2 tq) ∧ w'.cell? ⟨tb, to, none⟩ = some (.int .i64 tk0) ∧ w'.cell? ⟨tb, to + 1, none⟩ = some (.slice ta0 tn0 tq0)) (by kernel_rfl) ?_ (fun hHeld0 => ?_)
    · exact ⟨dcell (s0_), dcell (s1_), dcell (s2_), dcell (s3_), dcell (s4_), dcell (s5_), dcell (s6_), dcell (s7_), dcell (s8_), dcell (s9_), dcell (s10_), dcell (s11_), dcell (s12_)⟩
    refine wpAnyH_take (i := 0) (oi := oLb0) (v := .pointer (some ⟨w.heap.size + 1, 0, none⟩)) rfl (by kernel_rfl) (by kernel_rfl) (by kernel_rfl) (fun _ _ _ h => h) (Or.inl ⟨by rfl, ?_⟩) hHeld0 ?_
    · intro w' hSw; (try dsimp only at hSw); dsimp only [oLb0]; go_simp
    (try simp only [oLb0, Act.put, List.setIfInBounds_toArray, List.set_cons_zero, List.set_cons_succ])
    refine wpAnyH_take (i := 1) (oi := oLb1) (v := .int .i64 5) rfl (by kernel_rfl) (by kernel_rfl) (by kernel_rfl) (fun _ _ _ h => h) (Or.inl ⟨by rfl, ?_⟩) hHeld0 ?_
    · intro w' hSw; (try dsimp only at hSw); dsimp only [oLb1]; go_simp
    (try simp only [oLb1, Act.put, List.setIfInBounds_toArray, List.set_cons_zero, List.set_cons_succ])
    refine wpAnyH_take (i := 2) (oi := oLb2) (v := .bool true) rfl (by kernel_rfl) (by kernel_rfl) (by kernel_rfl) (fun _ _ _ h => h) (Or.inl ⟨by rfl, ?_⟩) hHeld0 ?_
    · intro w' hSw; (try dsimp only at hSw); dsimp only [oLb2]; go_simp
    (try simp only [oLb2, Act.put, List.setIfInBounds_toArray, List.set_cons_zero, List.set_cons_succ])
    refine wpAnyH_take (i := 3) (oi := oLb3) (v := .bool true) rfl (by kernel_rfl) (by kernel_rfl) (by kernel_rfl) (fun _ _ _ h => h) (Or.inl ⟨by rfl, ?_⟩) hHeld0 ?_
    · intro w' hSw; (try dsimp only at hSw); dsimp only [oLb3]; go_simp
    (try simp only [oLb3, Act.put, List.setIfInBounds_toArray, List.set_cons_zero, List.set_cons_succ])
    refine wpAnyH_take (i := 4) (oi := oLb4) (v := .pointer (some ⟨w.heap.size + 1 + 1, 0, none⟩)) rfl (by kernel_rfl) (by kernel_rfl) (by kernel_rfl) (fun _ _ _ h => h) (Or.inl ⟨by rfl, ?_⟩) hHeld0 ?_
    · intro w' hSw; (try dsimp only at hSw); dsimp only [oLb4]; go_simp
    (try simp only [oLb4, Act.put, List.setIfInBounds_toArray, List.set_cons_zero, List.set_cons_succ])
    refine wpAnyH_take (i := 5) (oi := oLb5) (v := .int .i64 5) rfl (by kernel_rfl) (by kernel_rfl) (by kernel_rfl) (fun _ _ _ h => h) (Or.inl ⟨by rfl, ?_⟩) hHeld0 ?_
    · intro w' hSw; (try dsimp only at hSw); dsimp only [oLb5]; go_simp
    (try simp only [oLb5, Act.put, List.setIfInBounds_toArray, List.set_cons_zero, List.set_cons_succ])
    refine wpAnyH_take (i := 6) (oi := oLb6) (v := .bool true) rfl (by kernel_rfl) (by kernel_rfl) (by kernel_rfl) (fun _ _ _ h => h) (Or.inl ⟨by rfl, ?_⟩) hHeld0 ?_
    · intro w' hSw; (try dsimp only at hSw); dsimp only [oLb6]; go_simp
    (try simp only [oLb6, Act.put, List.setIfInBounds_toArray, List.set_cons_zero, List.set_cons_succ])
    refine wpAnyH_take (i := 7) (oi := oLb7) (v := .bool true) rfl (by kernel_rfl) (by kernel_rfl) (by kernel_rfl) (fun _ _ _ h => h) (Or.inl ⟨by rfl, ?_⟩) hHeld0 ?_
    · intro w' hSw; (try dsimp only at hSw); dsimp only [oLb7]; go_simp
    (try simp only [oLb7, Act.put, List.setIfInBounds_toArray, List.set_cons_zero, List.set_cons_succ])
    refine wpAnyH_take (i := 8) (oi := oLb8) (v := .bool true) rfl (by kernel_rfl) (by kernel_rfl) (by kernel_rfl) (fun _ _ _ h => h) (Or.inl ⟨by rfl, ?_⟩) hHeld0 ?_
    · intro w' hSw; (try dsimp only at hSw); dsimp only [oLb8]; go_simp
    (try simp only [oLb8, Act.put, List.setIfInBounds_toArray, List.set_cons_zero, List.set_cons_succ])
    refine wpAnyH_take (i := 9) (oi := oLb9) (v := .pointer (some ⟨w.heap.size, 3, none⟩)) rfl (by kernel_rfl) (by kernel_rfl) (by kernel_rfl) (fun _ _ _ h => h) (Or.inl ⟨by rfl, ?_⟩) hHeld0 ?_
    · intro w' hSw; (try dsimp only at hSw); dsimp only [oLb9]; go_simp
    (try simp only [oLb9, Act.put, List.setIfInBounds_toArray, List.set_cons_zero, List.set_cons_succ])
    refine wpAnyH_take (i := 10) (oi := oLb10) (v := .slice (some ⟨b, off, none⟩) 2 q) rfl (by kernel_rfl) (by kernel_rfl) (by kernel_rfl) (fun _ _ _ h => h) (Or.inl ⟨by rfl, ?_⟩) hHeld0 ?_
    · intro w' hSw; (try dsimp only at hSw); dsimp only [oLb10]; go_simp
    (try simp only [oLb10, Act.put, List.setIfInBounds_toArray, List.set_cons_zero, List.set_cons_succ])
    refine wpAnyH_take (i := 11) (oi := oLb11) (v := .pointer (some ⟨b, off, none⟩)) rfl (by kernel_rfl) (by kernel_rfl) (by kernel_rfl) (fun _ _ _ h => h) (Or.inl ⟨by rfl, ?_⟩) hHeld0 ?_
    · intro w' hSw; (try dsimp only at hSw); dsimp only [oLb11]; go_simp
    (try simp only [oLb11, Act.put, List.setIfInBounds_toArray, List.set_cons_zero, List.set_cons_succ])
    refine wpAnyH_take (i := 12) (oi := oLb12) (v := .agg #[.int .i64 k0, .int .i64 g0, .int .i64 l0, .slice a0 n0 q0]) rfl (by kernel_rfl) (by kernel_rfl) (by kernel_rfl) (fun _ _ _ h => h) (Or.inl ⟨by rfl, ?_⟩) hHeld0 ?_
    · intro w' hSw; (try dsimp only at hSw); dsimp only [oLb12]; go_simp
    (try simp only [oLb12, Act.put, List.setIfInBounds_toArray, List.set_cons_zero, List.set_cons_succ])
    refine wpAnyH_take (i := 13) (oi := oLb13) (v := .pointer (some ⟨w.heap.size + 1, 1, none⟩)) rfl (by kernel_rfl) (by kernel_rfl) (by kernel_rfl) (fun _ _ _ h => h) (Or.inl ⟨by rfl, ?_⟩) hHeld0 ?_
    · intro w' hSw; (try dsimp only at hSw); dsimp only [oLb13]; go_simp
    (try simp only [oLb13, Act.put, List.setIfInBounds_toArray, List.set_cons_zero, List.set_cons_succ])
    refine wpAnyH_take (i := 14) (oi := oLb14) (v := .slice (some ⟨fb, fo, none⟩) 2 fq) rfl (by kernel_rfl) (by kernel_rfl) (by kernel_rfl) (fun _ _ _ h => h) (Or.inl ⟨by rfl, ?_⟩) hHeld0 ?_
    · intro w' hSw; (try dsimp only at hSw); dsimp only [oLb14]; go_simp
    (try simp only [oLb14, Act.put, List.setIfInBounds_toArray, List.set_cons_zero, List.set_cons_succ])
    refine wpAnyH_take (i := 15) (oi := oLb15) (v := .pointer (some ⟨fb, fo, none⟩)) rfl (by kernel_rfl) (by kernel_rfl) (by kernel_rfl) (fun _ _ _ h => h) (Or.inl ⟨by rfl, ?_⟩) hHeld0 ?_
    · intro w' hSw; (try dsimp only at hSw); dsimp only [oLb15]; go_simp
    (try simp only [oLb15, Act.put, List.setIfInBounds_toArray, List.set_cons_zero, List.set_cons_succ])
    refine wpAnyH_take (i := 16) (oi := oLb16) (v := .agg #[.int .i64 fk0, .slice fa0 fn0 fq0]) rfl (by kernel_rfl) (by kernel_rfl) (by kernel_rfl) (fun _ _ _ h => h) (Or.inl ⟨by rfl, ?_⟩) hHeld0 ?_
    · intro w' hSw; (try dsimp only at hSw); dsimp only [oLb16]; go_simp
    (try simp only [oLb16, Act.put, List.setIfInBounds_toArray, List.set_cons_zero, List.set_cons_succ])
    refine wpAnyH_take (i := 17) (oi := oLb17) (v := .pointer (some ⟨w.heap.size + 1 + 1, 1, none⟩)) rfl (by kernel_rfl) (by kernel_rfl) (by kernel_rfl) (fun _ _ _ h => h) (Or.inl ⟨by rfl, ?_⟩) hHeld0 ?_
    · intro w' hSw; (try dsimp only at hSw); dsimp only [oLb17]; go_simp
    (try simp only [oLb17, Act.put, List.setIfInBounds_toArray, List.set_cons_zero, List.set_cons_succ])
    refine wpAnyH_take (i := 18) (oi := oLb18) (v := .slice (some ⟨tb, to, none⟩) 2 tq) rfl (by kernel_rfl) (by kernel_rfl) (by kernel_rfl) (fun _ _ _ h => h) (Or.inl ⟨by rfl, ?_⟩) hHeld0 ?_
    · intro w' hSw; (try dsimp only at hSw); dsimp only [oLb18]; go_simp
    (try simp only [oLb18, Act.put, List.setIfInBounds_toArray, List.set_cons_zero, List.set_cons_succ])
    refine wpAnyH_take (i := 19) (oi := oLb19) (v := .pointer (some ⟨tb, to, none⟩)) rfl (by kernel_rfl) (by kernel_rfl) (by kernel_rfl) (fun _ _ _ h => h) (Or.inl ⟨by rfl, ?_⟩) hHeld0 ?_
    · intro w' hSw; (try dsimp only at hSw); dsimp only [oLb19]; go_simp
    (try simp only [oLb19, Act.put, List.setIfInBounds_toArray, List.set_cons_zero, List.set_cons_succ])
    refine wpAnyH_take (i := 20) (oi := oLb20) (v := .agg #[.int .i64 tk0, .slice ta0 tn0 tq0]) rfl (by kernel_rfl) (by kernel_rfl) (by kernel_rfl) (fun _ _ _ h => h) (Or.inl ⟨by rfl, ?_⟩) hHeld0 ?_
    · intro w' hSw; (try dsimp only at hSw); dsimp only [oLb20]; go_simp
    (try simp only [oLb20, Act.put, List.setIfInBounds_toArray, List.set_cons_zero, List.set_cons_succ])
    refine wpAnyH_ready (rs := [21]) (by kernel_rfl) (by simp) ?_
    refine AllReadyH.cons (o := oLb21) rfl (fun K hK => ?_) AllReadyH.nil
    dsimp only [oLb21]
    go_simp
    go_at_call 40
    (with_reducible refine (H0.out _ bal3.drew).mono ?_)
    rintro e w3 ⟨rfl, hb3⟩
    rw [Hq1.out]
    go_wp2_with fail
    refine hK.out _ _ ?_ (fun hHeld1 => ?_)
    · exact ⟨bcell hb3 (dcell (s0_)), bcell hb3 (dcell (s1_)), bcell hb3 (dcell (s2_)), bcell hb3 (dcell (s3_)), bcell hb3 (dcell (s4_)), bcell hb3 (dcell (s5_)), bcell hb3 (dcell (s6_)), bcell hb3 (dcell (s7_)), bcell hb3 (dcell (s8_)), bcell hb3 (dcell (s9_)), bcell hb3 (dcell (s10_)), bcell hb3 (dcell (s11_)), bcell hb3 (dcell (s12_))⟩
    clear hK K hHeld0
    (try simp only [oLb21, Act.put, List.setIfInBounds_toArray, List.set_cons_zero, List.set_cons_succ])
    refine wpAnyH_take (i := 22) (oi := oLb22) (v := .bool false) rfl (by kernel_rfl) (by kernel_rfl) (by kernel_rfl) (fun _ _ _ h => h) (Or.inl ⟨by rfl, ?_⟩) hHeld1 ?_
    · intro w' hSw; (try dsimp only at hSw); dsimp only [oLb22]; go_simp
    (try simp only [oLb22, Act.put, List.setIfInBounds_toArray, List.set_cons_zero, List.set_cons_succ])
    refine wpAnyH_take (i := 23) (oi := oLb23) (v := .bool false) rfl (by kernel_rfl) (by kernel_rfl) (by kernel_rfl) (fun _ _ _ h => h) (Or.inl ⟨by rfl, ?_⟩) hHeld1 ?_
    · intro w' hSw; (try dsimp only at hSw); dsimp only [oLb23]; go_simp
    (try simp only [oLb23, Act.put, List.setIfInBounds_toArray, List.set_cons_zero, List.set_cons_succ])
    refine wpAnyH_take (i := 24) (oi := oLb24) (v := undef) rfl (by kernel_rfl) (by kernel_rfl) (by kernel_rfl) (fun _ _ _ h => h) (Or.inr ⟨by rfl, rfl⟩) hHeld1 ?_
    (try simp only [oLb24, Act.put, List.setIfInBounds_toArray, List.set_cons_zero, List.set_cons_succ])
    refine wpAnyH_take (i := 25) (oi := oLb25) (v := undef) rfl (by kernel_rfl) (by kernel_rfl) (by kernel_rfl) (fun _ _ _ h => h) (Or.inr ⟨by rfl, rfl⟩) hHeld1 ?_
    (try simp only [oLb25, Act.put, List.setIfInBounds_toArray, List.set_cons_zero, List.set_cons_succ])
    refine wpAnyH_take (i := 26) (oi := oLb26) (v := undef) rfl (by kernel_rfl) (by kernel_rfl) (by kernel_rfl) (fun _ _ _ h => h) (Or.inr ⟨by rfl, rfl⟩) hHeld1 ?_
    (try simp only [oLb26, Act.put, List.setIfInBounds_toArray, List.set_cons_zero, List.set_cons_succ])
    refine wpAnyH_take (i := 27) (oi := oLb27) (v := undef) rfl (by kernel_rfl) (by kernel_rfl) (by kernel_rfl) (fun _ _ _ h => h) (Or.inr ⟨by rfl, rfl⟩) hHeld1 ?_
    (try simp only [oLb27, Act.put, List.setIfInBounds_toArray, List.set_cons_zero, List.set_cons_succ])
    refine wpAnyH_take (i := 28) (oi := oLb28) (v := undef) rfl (by kernel_rfl) (by kernel_rfl) (by kernel_rfl) (fun _ _ _ h => h) (Or.inr ⟨by rfl, rfl⟩) hHeld1 ?_
    (try simp only [oLb28, Act.put, List.setIfInBounds_toArray, List.set_cons_zero, List.set_cons_succ])
    refine wpAnyH_take (i := 29) (oi := oLb29) (v := undef) rfl (by kernel_rfl) (by kernel_rfl) (by kernel_rfl) (fun _ _ _ h => h) (Or.inr ⟨by rfl, rfl⟩) hHeld1 ?_
    (try simp only [oLb29, Act.put, List.setIfInBounds_toArray, List.set_cons_zero, List.set_cons_succ])
    refine wpAnyH_take (i := 30) (oi := oLb30) (v := undef) rfl (by kernel_rfl) (by kernel_rfl) (by kernel_rfl) (fun _ _ _ h => h) (Or.inr ⟨by rfl, rfl⟩) hHeld1 ?_
    (try simp only [oLb30, Act.put, List.setIfInBounds_toArray, List.set_cons_zero, List.set_cons_succ])
    refine wpAnyH_take (i := 31) (oi := oLb31) (v := undef) rfl (by kernel_rfl) (by kernel_rfl) (by kernel_rfl) (fun _ _ _ h => h) (Or.inr ⟨by rfl, rfl⟩) hHeld1 ?_
    (try simp only [oLb31, Act.put, List.setIfInBounds_toArray, List.set_cons_zero, List.set_cons_succ])
    refine wpAnyH_take (i := 32) (oi := oLb32) (v := undef) rfl (by kernel_rfl) (by kernel_rfl) (by kernel_rfl) (fun _ _ _ h => h) (Or.inr ⟨by rfl, rfl⟩) hHeld1 ?_
    (try simp only [oLb32, Act.put, List.setIfInBounds_toArray, List.set_cons_zero, List.set_cons_succ])
    refine wpAnyH_take (i := 33) (oi := oLb33) (v := undef) rfl (by kernel_rfl) (by kernel_rfl) (by kernel_rfl) (fun _ _ _ h => h) (Or.inr ⟨by rfl, rfl⟩) hHeld1 ?_
    (try simp only [oLb33, Act.put, List.setIfInBounds_toArray, List.set_cons_zero, List.set_cons_succ])
    refine wpAnyH_take (i := 34) (oi := oLb34) (v := undef) rfl (by kernel_rfl) (by kernel_rfl) (by kernel_rfl) (fun _ _ _ h => h) (Or.inr ⟨by rfl, rfl⟩) hHeld1 ?_
    (try simp only [oLb34, Act.put, List.setIfInBounds_toArray, List.set_cons_zero, List.set_cons_succ])
    refine wpAnyH_take (i := 35) (oi := oLb35) (v := undef) rfl (by kernel_rfl) (by kernel_rfl) (by kernel_rfl) (fun _ _ _ h => h) (Or.inr ⟨by rfl, rfl⟩) hHeld1 ?_
    (try simp only [oLb35, Act.put, List.setIfInBounds_toArray, List.set_cons_zero, List.set_cons_succ])
    refine wpAnyH_take (i := 36) (oi := oLb36) (v := undef) rfl (by kernel_rfl) (by kernel_rfl) (by kernel_rfl) (fun _ _ _ h => h) (Or.inr ⟨by rfl, rfl⟩) hHeld1 ?_
    (try simp only [oLb36, Act.put, List.setIfInBounds_toArray, List.set_cons_zero, List.set_cons_succ])
    refine wpAnyH_take (i := 37) (oi := oLb37) (v := .bool false) rfl (by kernel_rfl) (by kernel_rfl) (by kernel_rfl) (fun _ _ _ h => h) (Or.inl ⟨by rfl, ?_⟩) hHeld1 ?_
    · intro w' hSw; (try dsimp only at hSw); dsimp only [oLb37]; go_simp
    (try simp only [oLb37, Act.put, List.setIfInBounds_toArray, List.set_cons_zero, List.set_cons_succ])
    refine wpAnyH_take (i := 38) (oi := oLb38) (v := .bool false) rfl (by kernel_rfl) (by kernel_rfl) (by kernel_rfl) (fun _ _ _ h => h) (Or.inl ⟨by rfl, ?_⟩) hHeld1 ?_
    · intro w' hSw; (try dsimp only at hSw); dsimp only [oLb38]; go_simp
    (try simp only [oLb38, Act.put, List.setIfInBounds_toArray, List.set_cons_zero, List.set_cons_succ])
    refine wpAnyH_done (by kernel_rfl) ?_ _
    refine NoPanic.normal ?_
    clear hHeld1 s0_ s1_ s2_ s3_ s4_ s5_ s6_ s7_ s8_ s9_ s10_ s11_ s12_
    have hB := (bstep bal3.drew hb3)
    have zw3 := hB.size
    go_wp2_with fail
    refine bodyPost_ret (v := .bool (false)) (by simp [results, Try.results40, go_sem, bne]) rfl ?_
    exact ⟨ret_bool ((leaf_ldimpl3k_3 r0 r1 Hq1.out).trans HT.out), hB⟩
set_option maxHeartbeats 4000000 in
theorem implLd4 (g l fk tk : Int) (fa ta : Option Addr) (fn fq tn tq : Nat) (tg k0 g0 l0 : Int) (b off n q : Nat) (a0 : Option Addr) (n0 q0 : Nat) (r0 : Bool) (w : World) (hn : 0 < n) (hq : n ≤ q) (hq2 : q ≤ 9223372036854775807) (e0 : w.cell? ⟨b, off, none⟩ = some (.int .i64 k0)) (e1 : w.cell? ⟨b, off + 1, none⟩ = some (.int .i64 g0)) (e2 : w.cell? ⟨b, off + 2, none⟩ = some (.int .i64 l0)) (e3 : w.cell? ⟨b, off + 3, none⟩ = some (.slice a0 n0 q0)) (HTg : Hid (∀ W, Below w.heap.size w W → Calls Try.prog 48 #[.agg #[.int .i64 4, .int .i64 g, .int .i64 l, .slice (some ⟨b, off, none⟩) n q]] W fun e W' => e = .returned (.int .i64 (tg)) ∧ Below W.heap.size W W')) (H0 : Hid (∀ W, Below w.heap.size w W → ∀ (G : Nat → Prop) (y : Value), TyRep G W (ground fk) y → Calls Try.prog 40 #[.agg #[.int .i64 k0, .int .i64 g0, .int .i64 l0, .slice a0 n0 q0], .agg #[.int .i64 fk, .slice fa fn fq], y] W fun e W' => e = .returned (.bool (r0)) ∧ Below W.heap.size W W')) :
    Calls Try.prog 40 #[.agg #[.int .i64 4, .int .i64 g, .int .i64 l, .slice (some ⟨b, off, none⟩) n q], .agg #[.int .i64 fk, .slice fa fn fq], .agg #[.int .i64 tk, .slice ta tn tq]] w fun e w' => e = .returned (.bool (tk == 1 && fk == tg && r0)) ∧ Below w.heap.size w w' := by
  obtain ⟨rr, hrr⟩ : ∃ rr0 : Bool, (tk == 1 && fk == tg && r0) = rr0 := ⟨_, rfl⟩
  rw [hrr]
  have HT := Lib.hid hrr
  clear hrr
  have hn0 : (0 : Int) < (n : Int) := by omega
  have lb : b < w.heap.size := World.block_lt_of_cell? _ _ e0
  have lb_1 : b < w.heap.size + 1 := by omega
  have lb_2 : b < w.heap.size + 1 + 1 := by omega
  go_enter Try.func40, Try.ntmps40
  rcases Bool.eq_false_or_eq_true (tk == 1) with q1 | q1
  · skip
    have nq1 : (tk != 1) = false := by simp only [bne, q1]; rfl
    rcases Bool.eq_false_or_eq_true (fk == tg) with q2 | q2
    · skip
      have nq2 : (fk != tg) = false := by simp only [bne, q2]; rfl
      go_wp2_with fail
      have s0_ : (World.alloc (World.alloc (World.alloc w (Obj.cells #[.int .i64 4, .int .i64 g, .int .i64 l, .slice (some ⟨b, off, none⟩) n q] 28)) (Obj.cells #[.int .i64 fk, .slice fa fn fq] 38)) (Obj.cells #[.int .i64 tk, .slice ta tn tq] 38)).cell? ⟨w.heap.size + 1 + 1, 0, none⟩ = some (.int .i64 tk) := cell_new (by simp) 0
      have s1_ : (World.alloc (World.alloc (World.alloc w (Obj.cells #[.int .i64 4, .int .i64 g, .int .i64 l, .slice (some ⟨b, off, none⟩) n q] 28)) (Obj.cells #[.int .i64 fk, .slice fa fn fq] 38)) (Obj.cells #[.int .i64 tk, .slice ta tn tq] 38)).cell? ⟨w.heap.size + 1, 0, none⟩ = some (.int .i64 fk) := bcell bal1 (cell_new (by simp) 0)
      have s2_ : (World.alloc (World.alloc (World.alloc w (Obj.cells #[.int .i64 4, .int .i64 g, .int .i64 l, .slice (some ⟨b, off, none⟩) n q] 28)) (Obj.cells #[.int .i64 fk, .slice fa fn fq] 38)) (Obj.cells #[.int .i64 tk, .slice ta tn tq] 38)).cell? ⟨w.heap.size, 0, none⟩ = some (.int .i64 4) := bcell bal1 (bcell bal1 (cell_new (by simp) 0))
      have s3_ : (World.alloc (World.alloc (World.alloc w (Obj.cells #[.int .i64 4, .int .i64 g, .int .i64 l, .slice (some ⟨b, off, none⟩) n q] 28)) (Obj.cells #[.int .i64 fk, .slice fa fn fq] 38)) (Obj.cells #[.int .i64 tk, .slice ta tn tq] 38)).cell? ⟨w.heap.size, 1, none⟩ = some (.int .i64 g) := bcell bal1 (bcell bal1 (cell_new (by simp) 1))
      have s4_ : (World.alloc (World.alloc (World.alloc w (Obj.cells #[.int .i64 4, .int .i64 g, .int .i64 l, .slice (some ⟨b, off, none⟩) n q] 28)) (Obj.cells #[.int .i64 fk, .slice fa fn fq] 38)) (Obj.cells #[.int .i64 tk, .slice ta tn tq] 38)).cell? ⟨w.heap.size, 2, none⟩ = some (.int .i64 l) := bcell bal1 (bcell bal1 (cell_new (by simp) 2))
      have s5_ : (World.alloc (World.alloc (World.alloc w (Obj.cells #[.int .i64 4, .int .i64 g, .int .i64 l, .slice (some ⟨b, off, none⟩) n q] 28)) (Obj.cells #[.int .i64 fk, .slice fa fn fq] 38)) (Obj.cells #[.int .i64 tk, .slice ta tn tq] 38)).cell? ⟨w.heap.size, 3, none⟩ = some (.slice (some ⟨b, off, none⟩) n q) := bcell bal1 (bcell bal1 (cell_new (by simp) 3))
      have s6_ : (World.alloc (World.alloc (World.alloc w (Obj.cells #[.int .i64 4, .int .i64 g, .int .i64 l, .slice (some ⟨b, off, none⟩) n q] 28)) (Obj.cells #[.int .i64 fk, .slice fa fn fq] 38)) (Obj.cells #[.int .i64 tk, .slice ta tn tq] 38)).cell? ⟨b, off, none⟩ = some (.int .i64 k0) := bcell bal1 (bcell bal1 (bcell bal1 (e0)))
      have s7_ : (World.alloc (World.alloc (World.alloc w (Obj.cells #[.int .i64 4, .int .i64 g, .int .i64 l, .slice (some ⟨b, off, none⟩) n q] 28)) (Obj.cells #[.int .i64 fk, .slice fa fn fq] 38)) (Obj.cells #[.int .i64 tk, .slice ta tn tq] 38)).cell? ⟨b, off + 1, none⟩ = some (.int .i64 g0) := bcell bal1 (bcell bal1 (bcell bal1 (e1)))
      have s8_ : (World.alloc (World.alloc (World.alloc w (Obj.cells #[.int .i64 4, .int .i64 g, .int .i64 l, .slice (some ⟨b, off, none⟩) n q] 28)) (Obj.cells #[.int .i64 fk, .slice fa fn fq] 38)) (Obj.cells #[.int .i64 tk, .slice ta tn tq] 38)).cell? ⟨b, off + 2, none⟩ = some (.int .i64 l0) := bcell bal1 (bcell bal1 (bcell bal1 (e2)))
      have s9_ : (World.alloc (World.alloc (World.alloc w (Obj.cells #[.int .i64 4, .int .i64 g, .int .i64 l, .slice (some ⟨b, off, none⟩) n q] 28)) (Obj.cells #[.int .i64 fk, .slice fa fn fq] 38)) (Obj.cells #[.int .i64 tk, .slice ta tn tq] 38)).cell? ⟨b, off + 3, none⟩ = some (.slice a0 n0 q0) := bcell bal1 (bcell bal1 (bcell bal1 (e3)))
      have s10_ : (World.alloc (World.alloc (World.alloc w (Obj.cells #[.int .i64 4, .int .i64 g, .int .i64 l, .slice (some ⟨b, off, none⟩) n q] 28)) (Obj.cells #[.int .i64 fk, .slice fa fn fq] 38)) (Obj.cells #[.int .i64 tk, .slice ta tn tq] 38)).cell? ⟨w.heap.size + 1, 1, none⟩ = some (.slice fa fn fq) := bcell bal1 (cell_new (by simp) 1)
      have hS0 := Lib.hid (show (World.drew (World.alloc (World.alloc (World.alloc w (Obj.cells #[.int .i64 4, .int .i64 g, .int .i64 l, .slice (some ⟨b, off, none⟩) n q] 28)) (Obj.cells #[.int .i64 fk, .slice fa fn fq] 38)) (Obj.cells #[.int .i64 tk, .slice ta tn tq] 38))).cell? ⟨w.heap.size + 1 + 1, 0, none⟩ = some (.int .i64 tk) ∧ (World.drew (World.alloc (World.alloc (World.alloc w (Obj.cells #[.int .i64 4, .int .i64 g, .int .i64 l, .slice (some ⟨b, off, none⟩) n q] 28)) (Obj.cells #[.int .i64 fk, .slice fa fn fq] 38)) (Obj.cells #[.int .i64 tk, .slice ta tn tq] 38))).cell? ⟨w.heap.size + 1, 0, none⟩ = some (.int .i64 fk) ∧ (World.drew (World.alloc (World.alloc (World.alloc w (Obj.cells #[.int .i64 4, .int .i64 g, .int .i64 l, .slice (some ⟨b, off, none⟩) n q] 28)) (Obj.cells #[.int .i64 fk, .slice fa fn fq] 38)) (Obj.cells #[.int .i64 tk, .slice ta tn tq] 38))).cell? ⟨w.heap.size, 0, none⟩ = some (.int .i64 4) ∧ (World.drew (World.alloc (World.alloc (World.alloc w (Obj.cells #[.int .i64 4, .int .i64 g, .int .i64 l, .slice (some ⟨b, off, none⟩) n q] 28)) (Obj.cells #[.int .i64 fk, .slice fa fn fq] 38)) (Obj.cells #[.int .i64 tk, .slice ta tn tq] 38))).cell? ⟨w.heap.size, 1, none⟩ = some (.int .i64 g) ∧ (World.drew (World.alloc (World.alloc (World.alloc w (Obj.cells #[.int .i64 4, .int .i64 g, .int .i64 l, .slice (some ⟨b, off, none⟩) n q] 28)) (Obj.cells #[.int .i64 fk, .slice fa fn fq] 38)) (Obj.cells #[.int .i64 tk, .slice ta tn tq] 38))).cell? ⟨w.heap.size, 2, none⟩ = some (.int .i64 l) ∧ (World.drew (World.alloc (World.alloc (World.alloc w (Obj.cells #[.int .i64 4, .int .i64 g, .int .i64 l, .slice (some ⟨b, off, none⟩) n q] 28)) (Obj.cells #[.int .i64 fk, .slice fa fn fq] 38)) (Obj.cells #[.int .i64 tk, .slice ta tn tq] 38))).cell? ⟨w.heap.size, 3, none⟩ = some (.slice (some ⟨b, off, none⟩) n q) ∧ (World.drew (World.alloc (World.alloc (World.alloc w (Obj.cells #[.int .i64 4, .int .i64 g, .int .i64 l, .slice (some ⟨b, off, none⟩) n q] 28)) (Obj.cells #[.int .i64 fk, .slice fa fn fq] 38)) (Obj.cells #[.int .i64 tk, .slice ta tn tq] 38))).cell? ⟨b, off, none⟩ = some (.int .i64 k0) ∧ (World.drew (World.alloc (World.alloc (World.alloc w (Obj.cells #[.int .i64 4, .int .i64 g, .int .i64 l, .slice (some ⟨b, off, none⟩) n q] 28)) (Obj.cells #[.int .i64 fk, .slice fa fn fq] 38)) (Obj.cells #[.int .i64 tk, .slice ta tn tq] 38))).cell? ⟨b, off + 1, none⟩ = some (.int .i64 g0) ∧ (World.drew (World.alloc (World.alloc (World.alloc w (Obj.cells #[.int .i64 4, .int .i64 g, .int .i64 l, .slice (some ⟨b, off, none⟩) n q] 28)) (Obj.cells #[.int .i64 fk, .slice fa fn fq] 38)) (Obj.cells #[.int .i64 tk, .slice ta tn tq] 38))).cell? ⟨b, off + 2, none⟩ = some (.int .i64 l0) ∧ (World.drew (World.alloc (World.alloc (World.alloc w (Obj.cells #[.int .i64 4, .int .i64 g, .int .i64 l, .slice (some ⟨b, off, none⟩) n q] 28)) (Obj.cells #[.int .i64 fk, .slice fa fn fq] 38)) (Obj.cells #[.int .i64 tk, .slice ta tn tq] 38))).cell? ⟨b, off + 3, none⟩ = some (.slice a0 n0 q0) ∧ (World.drew (World.alloc (World.alloc (World.alloc w (Obj.cells #[.int .i64 4, .int .i64 g, .int .i64 l, .slice (some ⟨b, off, none⟩) n q] 28)) (Obj.cells #[.int .i64 fk, .slice fa fn fq] 38)) (Obj.cells #[.int .i64 tk, .slice ta tn tq] 38))).cell? ⟨w.heap.size + 1, 1, none⟩ = some (.slice fa fn fq) from ⟨dcell (s0_), dcell (s1_), dcell (s2_), dcell (s3_), dcell (s4_), dcell (s5_), dcell (s6_), dcell (s7_), dcell (s8_), dcell (s9_), dcell (s10_)⟩)
      have hSb := Lib.hid (show ∀ X Y : World, Below X.heap.size X Y → (X.cell? ⟨w.heap.size + 1 + 1, 0, none⟩ = some (.int .i64 tk) ∧ X.cell? ⟨w.heap.size + 1, 0, none⟩ = some (.int .i64 fk) ∧ X.cell? ⟨w.heap.size, 0, none⟩ = some (.int .i64 4) ∧ X.cell? ⟨w.heap.size, 1, none⟩ = some (.int .i64 g) ∧ X.cell? ⟨w.heap.size, 2, none⟩ = some (.int .i64 l) ∧ X.cell? ⟨w.heap.size, 3, none⟩ = some (.slice (some ⟨b, off, none⟩) n q) ∧ X.cell? ⟨b, off, none⟩ = some (.int .i64 k0) ∧ X.cell? ⟨b, off + 1, none⟩ = some (.int .i64 g0) ∧ X.cell? ⟨b, off + 2, none⟩ = some (.int .i64 l0) ∧ X.cell? ⟨b, off + 3, none⟩ = some (.slice a0 n0 q0) ∧ X.cell? ⟨w.heap.size + 1, 1, none⟩ = some (.slice fa fn fq)) → (Y.cell? ⟨w.heap.size + 1 + 1, 0, none⟩ = some (.int .i64 tk) ∧ Y.cell? ⟨w.heap.size + 1, 0, none⟩ = some (.int .i64 fk) ∧ Y.cell? ⟨w.heap.size, 0, none⟩ = some (.int .i64 4) ∧ Y.cell? ⟨w.heap.size, 1, none⟩ = some (.int .i64 g) ∧ Y.cell? ⟨w.heap.size, 2, none⟩ = some (.int .i64 l) ∧ Y.cell? ⟨w.heap.size, 3, none⟩ = some (.slice (some ⟨b, off, none⟩) n q) ∧ Y.cell? ⟨b, off, none⟩ = some (.int .i64 k0) ∧ Y.cell? ⟨b, off + 1, none⟩ = some (.int .i64 g0) ∧ Y.cell? ⟨b, off + 2, none⟩ = some (.int .i64 l0) ∧ Y.cell? ⟨b, off + 3, none⟩ = some (.slice a0 n0 q0) ∧ Y.cell? ⟨w.heap.size + 1, 1, none⟩ = some (.slice fa fn fq)) from fun X Y h s => ⟨bcell h s.1, bcell h s.2.1, bcell h s.2.2.1, bcell h s.2.2.2.1, bcell h s.2.2.2.2.1, bcell h s.2.2.2.2.2.1, bcell h s.2.2.2.2.2.2.1, bcell h s.2.2.2.2.2.2.2.1, bcell h s.2.2.2.2.2.2.2.2.1, bcell h s.2.2.2.2.2.2.2.2.2.1, bcell h s.2.2.2.2.2.2.2.2.2.2⟩)
      go_region_held3 (fun w' => w'.cell? ⟨w.heap.size + 1 + 1, 0, none⟩ = some (.int .i64 tk) ∧ w'.cell? ⟨w.heap.size + 1, 0, none⟩ = some (.int .i64 fk) ∧ w'.cell? ⟨w.heap.size, 0, none⟩ = some (.int .i64 4) ∧ w'.cell? ⟨w.heap.size, 1, none⟩ = some (.int .i64 g) ∧ w'.cell? ⟨w.heap.size, 2, none⟩ = some (.int .i64 l) ∧ w'.cell? ⟨w.heap.size, 3, none⟩ = some (.slice (some ⟨b, off, none⟩) n q) ∧ w'.cell? ⟨b, off, none⟩ = some (.int .i64 k0) ∧ w'.cell? ⟨b, off + 1, none⟩ = some (.int .i64 g0) ∧ w'.cell? ⟨b, off + 2, none⟩ = some (.int .i64 l0) ∧ w'.cell? ⟨b, off + 3, none⟩ = some (.slice a0 n0 q0) ∧ w'.cell? ⟨w.heap.size + 1, 1, none⟩ = some (.slice fa fn fq))
        (repeat (first | with_reducible refine hSb.out _ _ hb3 ?_ | with_reducible refine hSb.out _ _ hb2 ?_ | with_reducible refine hSb.out _ _ hb1 ?_ | with_reducible exact hS0.out))
        (first | (go_at_call 48; ((with_reducible refine (HTg.out _ bal3.drew).mono ?_); rintro e w1 ⟨rfl, hb1⟩)) | (go_at_call 56; ((with_reducible refine (implGround fk _).mono ?_); rintro e w2 ⟨v2, rfl, hv2, hb2⟩; obtain ⟨kr2, ar2, nr2, qr2, rfl⟩ := hv2.shape)) | (go_at_call 40; ((with_reducible refine (H0.out _ (bstep (bstep bal3.drew hb1) hb2) _ _ (hv2.rep)).mono ?_); rintro e w3 ⟨rfl, hb3⟩)))
      clear s0_ s1_ s2_ s3_ s4_ s5_ s6_ s7_ s8_ s9_ s10_
      have hB := (bstep (bstep (bstep bal3.drew hb1) hb2) hb3)
      have zw3 := hB.size
      go_wp2_with fail
      refine bodyPost_ret (v := .bool (r0)) (by simp [results, Try.results40, go_sem, bne]) rfl ?_
      exact ⟨ret_bool ((leaf_ldimpl4_4 tk fk tg r0 q1 q2).trans HT.out), hB⟩
    · skip
      have nq2 : (fk != tg) = true := by simp only [bne, q2]; rfl
      go_wp2_with fail
      have s0_ : (World.alloc (World.alloc (World.alloc w (Obj.cells #[.int .i64 4, .int .i64 g, .int .i64 l, .slice (some ⟨b, off, none⟩) n q] 28)) (Obj.cells #[.int .i64 fk, .slice fa fn fq] 38)) (Obj.cells #[.int .i64 tk, .slice ta tn tq] 38)).cell? ⟨w.heap.size + 1 + 1, 0, none⟩ = some (.int .i64 tk) := cell_new (by simp) 0
      have s1_ : (World.alloc (World.alloc (World.alloc w (Obj.cells #[.int .i64 4, .int .i64 g, .int .i64 l, .slice (some ⟨b, off, none⟩) n q] 28)) (Obj.cells #[.int .i64 fk, .slice fa fn fq] 38)) (Obj.cells #[.int .i64 tk, .slice ta tn tq] 38)).cell? ⟨w.heap.size + 1, 0, none⟩ = some (.int .i64 fk) := bcell bal1 (cell_new (by simp) 0)
      have s2_ : (World.alloc (World.alloc (World.alloc w (Obj.cells #[.int .i64 4, .int .i64 g, .int .i64 l, .slice (some ⟨b, off, none⟩) n q] 28)) (Obj.cells #[.int .i64 fk, .slice fa fn fq] 38)) (Obj.cells #[.int .i64 tk, .slice ta tn tq] 38)).cell? ⟨w.heap.size, 0, none⟩ = some (.int .i64 4) := bcell bal1 (bcell bal1 (cell_new (by simp) 0))
      have s3_ : (World.alloc (World.alloc (World.alloc w (Obj.cells #[.int .i64 4, .int .i64 g, .int .i64 l, .slice (some ⟨b, off, none⟩) n q] 28)) (Obj.cells #[.int .i64 fk, .slice fa fn fq] 38)) (Obj.cells #[.int .i64 tk, .slice ta tn tq] 38)).cell? ⟨w.heap.size, 1, none⟩ = some (.int .i64 g) := bcell bal1 (bcell bal1 (cell_new (by simp) 1))
      have s4_ : (World.alloc (World.alloc (World.alloc w (Obj.cells #[.int .i64 4, .int .i64 g, .int .i64 l, .slice (some ⟨b, off, none⟩) n q] 28)) (Obj.cells #[.int .i64 fk, .slice fa fn fq] 38)) (Obj.cells #[.int .i64 tk, .slice ta tn tq] 38)).cell? ⟨w.heap.size, 2, none⟩ = some (.int .i64 l) := bcell bal1 (bcell bal1 (cell_new (by simp) 2))
      have s5_ : (World.alloc (World.alloc (World.alloc w (Obj.cells #[.int .i64 4, .int .i64 g, .int .i64 l, .slice (some ⟨b, off, none⟩) n q] 28)) (Obj.cells #[.int .i64 fk, .slice fa fn fq] 38)) (Obj.cells #[.int .i64 tk, .slice ta tn tq] 38)).cell? ⟨w.heap.size, 3, none⟩ = some (.slice (some ⟨b, off, none⟩) n q) := bcell bal1 (bcell bal1 (cell_new (by simp) 3))
      refine wp_region_noPanic ?_
      refine wp_region_held_drew (S := fun w' => w'.cell? ⟨w.heap.size + 1 + 1, 0, none⟩ = some (.int .i64 tk) ∧ w'.cell? ⟨w.heap.size + 1, 0, none⟩ = some (.int .i64 fk) ∧ w'.cell? ⟨w.heap.size, 0, none⟩ = some (.int .i64 4) ∧ w'.cell? ⟨w.heap.size, 1, none⟩ = some (.int .i64 g) ∧ w'.cell? ⟨w.heap.size, 2, none⟩ = some (.int .i64 l) ∧ w'.cell? ⟨w.heap.size, 3, none⟩ = some (.slice (some ⟨b, off, none⟩) n q)) (by kernel_rfl) ?_ (fun hHeld0 => ?_)
      · exact ⟨dcell (s0_), dcell (s1_), dcell (s2_), dcell (s3_), dcell (s4_), dcell (s5_)⟩
      refine wpAnyH_take (i := 0) (oi := oLb39) (v := .pointer (some ⟨w.heap.size + 1 + 1, 0, none⟩)) rfl (by kernel_rfl) (by kernel_rfl) (by kernel_rfl) (fun _ _ _ h => h) (Or.inl ⟨by rfl, ?_⟩) hHeld0 ?_
      · intro w' hSw; (try dsimp only at hSw); dsimp only [oLb39]; go_simp
      (try simp only [oLb39, Act.put, List.setIfInBounds_toArray, List.set_cons_zero, List.set_cons_succ])
      refine wpAnyH_take (i := 1) (oi := oLb40) (v := .int .i64 tk) rfl (by kernel_rfl) (by kernel_rfl) (by kernel_rfl) (fun _ _ _ h => h) (Or.inl ⟨by rfl, ?_⟩) hHeld0 ?_
      · intro w' hSw; (try dsimp only at hSw); dsimp only [oLb40]; go_simp
      (try simp only [oLb40, Act.put, List.setIfInBounds_toArray, List.set_cons_zero, List.set_cons_succ])
      refine wpAnyH_take (i := 2) (oi := oLb41) (v := .bool true) rfl (by kernel_rfl) (by kernel_rfl) (by kernel_rfl) (fun _ _ _ h => h) (Or.inl ⟨by rfl, ?_⟩) hHeld0 ?_
      · intro w' hSw; (try dsimp only at hSw); dsimp only [oLb41]; go_simp
      (try simp only [oLb41, Act.put, List.setIfInBounds_toArray, List.set_cons_zero, List.set_cons_succ])
      refine wpAnyH_take (i := 3) (oi := oLb42) (v := .bool true) rfl (by kernel_rfl) (by kernel_rfl) (by kernel_rfl) (fun _ _ _ h => h) (Or.inl ⟨by rfl, ?_⟩) hHeld0 ?_
      · intro w' hSw; (try dsimp only at hSw); dsimp only [oLb42]; go_simp
      (try simp only [oLb42, Act.put, List.setIfInBounds_toArray, List.set_cons_zero, List.set_cons_succ])
      refine wpAnyH_take (i := 4) (oi := oLb43) (v := .pointer (some ⟨w.heap.size + 1, 0, none⟩)) rfl (by kernel_rfl) (by kernel_rfl) (by kernel_rfl) (fun _ _ _ h => h) (Or.inl ⟨by rfl, ?_⟩) hHeld0 ?_
      · intro w' hSw; (try dsimp only at hSw); dsimp only [oLb43]; go_simp
      (try simp only [oLb43, Act.put, List.setIfInBounds_toArray, List.set_cons_zero, List.set_cons_succ])
      refine wpAnyH_take (i := 5) (oi := oLb44) (v := .int .i64 fk) rfl (by kernel_rfl) (by kernel_rfl) (by kernel_rfl) (fun _ _ _ h => h) (Or.inl ⟨by rfl, ?_⟩) hHeld0 ?_
      · intro w' hSw; (try dsimp only at hSw); dsimp only [oLb44]; go_simp
      (try simp only [oLb44, Act.put, List.setIfInBounds_toArray, List.set_cons_zero, List.set_cons_succ])
      refine wpAnyH_take (i := 6) (oi := oLb45) (v := .agg #[.int .i64 4, .int .i64 g, .int .i64 l, .slice (some ⟨b, off, none⟩) n q]) rfl (by kernel_rfl) (by kernel_rfl) (by kernel_rfl) (fun _ _ _ h => h) (Or.inl ⟨by rfl, ?_⟩) hHeld0 ?_
      · intro w' hSw; (try dsimp only at hSw); dsimp only [oLb45]; go_simp
      (try simp only [oLb45, Act.put, List.setIfInBounds_toArray, List.set_cons_zero, List.set_cons_succ])
      refine wpAnyH_ready (rs := [7]) (by kernel_rfl) (by simp) ?_
      refine AllReadyH.cons (o := oLb46) rfl (fun K hK => ?_) AllReadyH.nil
      dsimp only [oLb46]
      go_simp
      go_at_call 48
      (with_reducible refine (HTg.out _ bal3.drew).mono ?_)
      rintro e w4 ⟨rfl, hb4⟩
      go_wp2_with fail
      refine hK.out _ _ ?_ (fun hHeld1 => ?_)
      · exact ⟨bcell hb4 (dcell (s0_)), bcell hb4 (dcell (s1_)), bcell hb4 (dcell (s2_)), bcell hb4 (dcell (s3_)), bcell hb4 (dcell (s4_)), bcell hb4 (dcell (s5_))⟩
      clear hK K hHeld0
      (try simp only [oLb46, Act.put, List.setIfInBounds_toArray, List.set_cons_zero, List.set_cons_succ])
      refine wpAnyH_take (i := 8) (oi := oLb47) (v := .bool false) rfl (by kernel_rfl) (by kernel_rfl) (by kernel_rfl) (fun _ _ _ h => h) (Or.inl ⟨by rfl, ?_⟩) hHeld1 ?_
      · intro w' hSw; (try dsimp only at hSw); dsimp only [oLb47]; go_simp
      (try simp only [oLb47, Act.put, List.setIfInBounds_toArray, List.set_cons_zero, List.set_cons_succ])
      refine wpAnyH_take (i := 9) (oi := oLb48) (v := .bool false) rfl (by kernel_rfl) (by kernel_rfl) (by kernel_rfl) (fun _ _ _ h => h) (Or.inl ⟨by rfl, ?_⟩) hHeld1 ?_
      · intro w' hSw; (try dsimp only at hSw); dsimp only [oLb48]; go_simp
      (try simp only [oLb48, Act.put, List.setIfInBounds_toArray, List.set_cons_zero, List.set_cons_succ])
      refine wpAnyH_take (i := 10) (oi := oLb49) (v := .bool false) rfl (by kernel_rfl) (by kernel_rfl) (by kernel_rfl) (fun _ _ _ h => h) (Or.inl ⟨by rfl, ?_⟩) hHeld1 ?_
      · intro w' hSw; (try dsimp only at hSw); dsimp only [oLb49]; go_simp
      (try simp only [oLb49, Act.put, List.setIfInBounds_toArray, List.set_cons_zero, List.set_cons_succ])
      refine wpAnyH_take (i := 11) (oi := oLb50) (v := undef) rfl (by kernel_rfl) (by kernel_rfl) (by kernel_rfl) (fun _ _ _ h => h) (Or.inr ⟨by rfl, rfl⟩) hHeld1 ?_
      (try simp only [oLb50, Act.put, List.setIfInBounds_toArray, List.set_cons_zero, List.set_cons_succ])
      refine wpAnyH_take (i := 12) (oi := oLb51) (v := undef) rfl (by kernel_rfl) (by kernel_rfl) (by kernel_rfl) (fun _ _ _ h => h) (Or.inr ⟨by rfl, rfl⟩) hHeld1 ?_
      (try simp only [oLb51, Act.put, List.setIfInBounds_toArray, List.set_cons_zero, List.set_cons_succ])
      refine wpAnyH_take (i := 13) (oi := oLb52) (v := undef) rfl (by kernel_rfl) (by kernel_rfl) (by kernel_rfl) (fun _ _ _ h => h) (Or.inr ⟨by rfl, rfl⟩) hHeld1 ?_
      (try simp only [oLb52, Act.put, List.setIfInBounds_toArray, List.set_cons_zero, List.set_cons_succ])
      refine wpAnyH_take (i := 14) (oi := oLb53) (v := undef) rfl (by kernel_rfl) (by kernel_rfl) (by kernel_rfl) (fun _ _ _ h => h) (Or.inr ⟨by rfl, rfl⟩) hHeld1 ?_
      (try simp only [oLb53, Act.put, List.setIfInBounds_toArray, List.set_cons_zero, List.set_cons_succ])
      refine wpAnyH_take (i := 15) (oi := oLb54) (v := undef) rfl (by kernel_rfl) (by kernel_rfl) (by kernel_rfl) (fun _ _ _ h => h) (Or.inr ⟨by rfl, rfl⟩) hHeld1 ?_
      (try simp only [oLb54, Act.put, List.setIfInBounds_toArray, List.set_cons_zero, List.set_cons_succ])
      refine wpAnyH_take (i := 16) (oi := oLb55) (v := undef) rfl (by kernel_rfl) (by kernel_rfl) (by kernel_rfl) (fun _ _ _ h => h) (Or.inr ⟨by rfl, rfl⟩) hHeld1 ?_
      (try simp only [oLb55, Act.put, List.setIfInBounds_toArray, List.set_cons_zero, List.set_cons_succ])
      refine wpAnyH_take (i := 17) (oi := oLb56) (v := undef) rfl (by kernel_rfl) (by kernel_rfl) (by kernel_rfl) (fun _ _ _ h => h) (Or.inr ⟨by rfl, rfl⟩) hHeld1 ?_
      (try simp only [oLb56, Act.put, List.setIfInBounds_toArray, List.set_cons_zero, List.set_cons_succ])
      refine wpAnyH_take (i := 18) (oi := oLb57) (v := undef) rfl (by kernel_rfl) (by kernel_rfl) (by kernel_rfl) (fun _ _ _ h => h) (Or.inr ⟨by rfl, rfl⟩) hHeld1 ?_
      (try simp only [oLb57, Act.put, List.setIfInBounds_toArray, List.set_cons_zero, List.set_cons_succ])
      refine wpAnyH_take (i := 19) (oi := oLb58) (v := undef) rfl (by kernel_rfl) (by kernel_rfl) (by kernel_rfl) (fun _ _ _ h => h) (Or.inr ⟨by rfl, rfl⟩) hHeld1 ?_
      (try simp only [oLb58, Act.put, List.setIfInBounds_toArray, List.set_cons_zero, List.set_cons_succ])
      refine wpAnyH_take (i := 20) (oi := oLb59) (v := .bool false) rfl (by kernel_rfl) (by kernel_rfl) (by kernel_rfl) (fun _ _ _ h => h) (Or.inl ⟨by rfl, ?_⟩) hHeld1 ?_
      · intro w' hSw; (try dsimp only at hSw); dsimp only [oLb59]; go_simp
      (try simp only [oLb59, Act.put, List.setIfInBounds_toArray, List.set_cons_zero, List.set_cons_succ])
      refine wpAnyH_take (i := 21) (oi := oLb60) (v := .bool false) rfl (by kernel_rfl) (by kernel_rfl) (by kernel_rfl) (fun _ _ _ h => h) (Or.inl ⟨by rfl, ?_⟩) hHeld1 ?_
      · intro w' hSw; (try dsimp only at hSw); dsimp only [oLb60]; go_simp
      (try simp only [oLb60, Act.put, List.setIfInBounds_toArray, List.set_cons_zero, List.set_cons_succ])
      refine wpAnyH_done (by kernel_rfl) ?_ _
      refine NoPanic.normal ?_
      clear hHeld1 s0_ s1_ s2_ s3_ s4_ s5_
      have hB := (bstep bal3.drew hb4)
      have zw4 := hB.size
      go_wp2_with fail
      refine bodyPost_ret (v := .bool (false)) (by simp [results, Try.results40, go_sem, bne]) rfl ?_
      exact ⟨ret_bool ((leaf_ldimpl4_5 tk fk tg r0 q1 q2).trans HT.out), hB⟩
  · skip
    have nq1 : (tk != 1) = true := by simp only [bne, q1]; rfl
    go_wp2_with fail
    have s0_ : (World.alloc (World.alloc (World.alloc w (Obj.cells #[.int .i64 4, .int .i64 g, .int .i64 l, .slice (some ⟨b, off, none⟩) n q] 28)) (Obj.cells #[.int .i64 fk, .slice fa fn fq] 38)) (Obj.cells #[.int .i64 tk, .slice ta tn tq] 38)).cell? ⟨w.heap.size + 1 + 1, 0, none⟩ = some (.int .i64 tk) := cell_new (by simp) 0
    refine wp_region_noPanic ?_
    refine wp_region_held_drew (S := fun w' => w'.cell? ⟨w.heap.size + 1 + 1, 0, none⟩ = some (.int .i64 tk)) (by kernel_rfl) ?_ (fun hHeld0 => ?_)
    · exact dcell (s0_)
    refine wpAnyH_take (i := 0) (oi := oLb39) (v := .pointer (some ⟨w.heap.size + 1 + 1, 0, none⟩)) rfl (by kernel_rfl) (by kernel_rfl) (by kernel_rfl) (fun _ _ _ h => h) (Or.inl ⟨by rfl, ?_⟩) hHeld0 ?_
    · intro w' hSw; (try dsimp only at hSw); dsimp only [oLb39]; go_simp
    (try simp only [oLb39, Act.put, List.setIfInBounds_toArray, List.set_cons_zero, List.set_cons_succ])
    refine wpAnyH_take (i := 1) (oi := oLb40) (v := .int .i64 tk) rfl (by kernel_rfl) (by kernel_rfl) (by kernel_rfl) (fun _ _ _ h => h) (Or.inl ⟨by rfl, ?_⟩) hHeld0 ?_
    · intro w' hSw; (try dsimp only at hSw); dsimp only [oLb40]; go_simp
    (try simp only [oLb40, Act.put, List.setIfInBounds_toArray, List.set_cons_zero, List.set_cons_succ])
    refine wpAnyH_take (i := 2) (oi := oLb41) (v := .bool false) rfl (by kernel_rfl) (by kernel_rfl) (by kernel_rfl) (fun _ _ _ h => h) (Or.inl ⟨by rfl, ?_⟩) hHeld0 ?_
    · intro w' hSw; (try dsimp only at hSw); dsimp only [oLb41]; go_simp
    (try simp only [oLb41, Act.put, List.setIfInBounds_toArray, List.set_cons_zero, List.set_cons_succ])
    refine wpAnyH_take (i := 3) (oi := oLb42) (v := .bool false) rfl (by kernel_rfl) (by kernel_rfl) (by kernel_rfl) (fun _ _ _ h => h) (Or.inl ⟨by rfl, ?_⟩) hHeld0 ?_
    · intro w' hSw; (try dsimp only at hSw); dsimp only [oLb42]; go_simp
    (try simp only [oLb42, Act.put, List.setIfInBounds_toArray, List.set_cons_zero, List.set_cons_succ])
    refine wpAnyH_take (i := 4) (oi := oLb43) (v := undef) rfl (by kernel_rfl) (by kernel_rfl) (by kernel_rfl) (fun _ _ _ h => h) (Or.inr ⟨by rfl, rfl⟩) hHeld0 ?_
    (try simp only [oLb43, Act.put, List.setIfInBounds_toArray, List.set_cons_zero, List.set_cons_succ])
    refine wpAnyH_take (i := 5) (oi := oLb44) (v := undef) rfl (by kernel_rfl) (by kernel_rfl) (by kernel_rfl) (fun _ _ _ h => h) (Or.inr ⟨by rfl, rfl⟩) hHeld0 ?_
    (try simp only [oLb44, Act.put, List.setIfInBounds_toArray, List.set_cons_zero, List.set_cons_succ])
    refine wpAnyH_take (i := 6) (oi := oLb45) (v := undef) rfl (by kernel_rfl) (by kernel_rfl) (by kernel_rfl) (fun _ _ _ h => h) (Or.inr ⟨by rfl, rfl⟩) hHeld0 ?_
    (try simp only [oLb45, Act.put, List.setIfInBounds_toArray, List.set_cons_zero, List.set_cons_succ])
    refine wpAnyH_take (i := 7) (oi := oLb46) (v := undef) rfl (by kernel_rfl) (by kernel_rfl) (by kernel_rfl) (fun _ _ _ h => h) (Or.inr ⟨by rfl, rfl⟩) hHeld0 ?_
    (try simp only [oLb46, Act.put, List.setIfInBounds_toArray, List.set_cons_zero, List.set_cons_succ])
    refine wpAnyH_take (i := 8) (oi := oLb47) (v := undef) rfl (by kernel_rfl) (by kernel_rfl) (by kernel_rfl) (fun _ _ _ h => h) (Or.inr ⟨by rfl, rfl⟩) hHeld0 ?_
    (try simp only [oLb47, Act.put, List.setIfInBounds_toArray, List.set_cons_zero, List.set_cons_succ])
    refine wpAnyH_take (i := 9) (oi := oLb48) (v := .bool false) rfl (by kernel_rfl) (by kernel_rfl) (by kernel_rfl) (fun _ _ _ h => h) (Or.inl ⟨by rfl, ?_⟩) hHeld0 ?_
    · intro w' hSw; (try dsimp only at hSw); dsimp only [oLb48]; go_simp
    (try simp only [oLb48, Act.put, List.setIfInBounds_toArray, List.set_cons_zero, List.set_cons_succ])
    refine wpAnyH_take (i := 10) (oi := oLb49) (v := .bool false) rfl (by kernel_rfl) (by kernel_rfl) (by kernel_rfl) (fun _ _ _ h => h) (Or.inl ⟨by rfl, ?_⟩) hHeld0 ?_
    · intro w' hSw; (try dsimp only at hSw); dsimp only [oLb49]; go_simp
    (try simp only [oLb49, Act.put, List.setIfInBounds_toArray, List.set_cons_zero, List.set_cons_succ])
    refine wpAnyH_take (i := 11) (oi := oLb50) (v := undef) rfl (by kernel_rfl) (by kernel_rfl) (by kernel_rfl) (fun _ _ _ h => h) (Or.inr ⟨by rfl, rfl⟩) hHeld0 ?_
    (try simp only [oLb50, Act.put, List.setIfInBounds_toArray, List.set_cons_zero, List.set_cons_succ])
    refine wpAnyH_take (i := 12) (oi := oLb51) (v := undef) rfl (by kernel_rfl) (by kernel_rfl) (by kernel_rfl) (fun _ _ _ h => h) (Or.inr ⟨by rfl, rfl⟩) hHeld0 ?_
    (try simp only [oLb51, Act.put, List.setIfInBounds_toArray, List.set_cons_zero, List.set_cons_succ])
    refine wpAnyH_take (i := 13) (oi := oLb52) (v := undef) rfl (by kernel_rfl) (by kernel_rfl) (by kernel_rfl) (fun _ _ _ h => h) (Or.inr ⟨by rfl, rfl⟩) hHeld0 ?_
    (try simp only [oLb52, Act.put, List.setIfInBounds_toArray, List.set_cons_zero, List.set_cons_succ])
    refine wpAnyH_take (i := 14) (oi := oLb53) (v := undef) rfl (by kernel_rfl) (by kernel_rfl) (by kernel_rfl) (fun _ _ _ h => h) (Or.inr ⟨by rfl, rfl⟩) hHeld0 ?_
    (try simp only [oLb53, Act.put, List.setIfInBounds_toArray, List.set_cons_zero, List.set_cons_succ])
    refine wpAnyH_take (i := 15) (oi := oLb54) (v := undef) rfl (by kernel_rfl) (by kernel_rfl) (by kernel_rfl) (fun _ _ _ h => h) (Or.inr ⟨by rfl, rfl⟩) hHeld0 ?_
    (try simp only [oLb54, Act.put, List.setIfInBounds_toArray, List.set_cons_zero, List.set_cons_succ])
    refine wpAnyH_take (i := 16) (oi := oLb55) (v := undef) rfl (by kernel_rfl) (by kernel_rfl) (by kernel_rfl) (fun _ _ _ h => h) (Or.inr ⟨by rfl, rfl⟩) hHeld0 ?_
    (try simp only [oLb55, Act.put, List.setIfInBounds_toArray, List.set_cons_zero, List.set_cons_succ])
    refine wpAnyH_take (i := 17) (oi := oLb56) (v := undef) rfl (by kernel_rfl) (by kernel_rfl) (by kernel_rfl) (fun _ _ _ h => h) (Or.inr ⟨by rfl, rfl⟩) hHeld0 ?_
    (try simp only [oLb56, Act.put, List.setIfInBounds_toArray, List.set_cons_zero, List.set_cons_succ])
    refine wpAnyH_take (i := 18) (oi := oLb57) (v := undef) rfl (by kernel_rfl) (by kernel_rfl) (by kernel_rfl) (fun _ _ _ h => h) (Or.inr ⟨by rfl, rfl⟩) hHeld0 ?_
    (try simp only [oLb57, Act.put, List.setIfInBounds_toArray, List.set_cons_zero, List.set_cons_succ])
    refine wpAnyH_take (i := 19) (oi := oLb58) (v := undef) rfl (by kernel_rfl) (by kernel_rfl) (by kernel_rfl) (fun _ _ _ h => h) (Or.inr ⟨by rfl, rfl⟩) hHeld0 ?_
    (try simp only [oLb58, Act.put, List.setIfInBounds_toArray, List.set_cons_zero, List.set_cons_succ])
    refine wpAnyH_take (i := 20) (oi := oLb59) (v := .bool false) rfl (by kernel_rfl) (by kernel_rfl) (by kernel_rfl) (fun _ _ _ h => h) (Or.inl ⟨by rfl, ?_⟩) hHeld0 ?_
    · intro w' hSw; (try dsimp only at hSw); dsimp only [oLb59]; go_simp
    (try simp only [oLb59, Act.put, List.setIfInBounds_toArray, List.set_cons_zero, List.set_cons_succ])
    refine wpAnyH_take (i := 21) (oi := oLb60) (v := .bool false) rfl (by kernel_rfl) (by kernel_rfl) (by kernel_rfl) (fun _ _ _ h => h) (Or.inl ⟨by rfl, ?_⟩) hHeld0 ?_
    · intro w' hSw; (try dsimp only at hSw); dsimp only [oLb60]; go_simp
    (try simp only [oLb60, Act.put, List.setIfInBounds_toArray, List.set_cons_zero, List.set_cons_succ])
    refine wpAnyH_done (by kernel_rfl) ?_ _
    refine NoPanic.normal ?_
    clear hHeld0 s0_
    go_wp2_with fail
    refine bodyPost_ret (v := .bool (false)) (by simp [results, Try.results40, go_sem, bne]) rfl ?_
    exact ⟨ret_bool ((leaf_ldimpl4_6 tk fk tg r0 q1).trans HT.out), bal3.drew⟩
set_option maxHeartbeats 4000000 in
theorem implLd5 (g l fk tk : Int) (fa ta : Option Addr) (fn fq tn tq : Nat) (tg k0 g0 l0 : Int) (b off n q : Nat) (a0 : Option Addr) (n0 q0 : Nat) (r0 : Bool) (w : World) (hn : 0 < n) (hq : n ≤ q) (hq2 : q ≤ 9223372036854775807) (e0 : w.cell? ⟨b, off, none⟩ = some (.int .i64 k0)) (e1 : w.cell? ⟨b, off + 1, none⟩ = some (.int .i64 g0)) (e2 : w.cell? ⟨b, off + 2, none⟩ = some (.int .i64 l0)) (e3 : w.cell? ⟨b, off + 3, none⟩ = some (.slice a0 n0 q0)) (HTg : Hid (∀ W, Below w.heap.size w W → Calls Try.prog 48 #[.agg #[.int .i64 k0, .int .i64 g0, .int .i64 l0, .slice a0 n0 q0]] W fun e W' => e = .returned (.int .i64 (tg)) ∧ Below W.heap.size W W')) (H0 : Hid (∀ W, Below w.heap.size w W → ∀ (G : Nat → Prop) (y : Value), TyRep G W (ground tg) y → Calls Try.prog 40 #[.agg #[.int .i64 k0, .int .i64 g0, .int .i64 l0, .slice a0 n0 q0], y, .agg #[.int .i64 tk, .slice ta tn tq]] W fun e W' => e = .returned (.bool (r0)) ∧ Below W.heap.size W W')) :
    Calls Try.prog 40 #[.agg #[.int .i64 5, .int .i64 g, .int .i64 l, .slice (some ⟨b, off, none⟩) n q], .agg #[.int .i64 fk, .slice fa fn fq], .agg #[.int .i64 tk, .slice ta tn tq]] w fun e w' => e = .returned (.bool (fk == 1 && r0)) ∧ Below w.heap.size w w' := by
  obtain ⟨rr, hrr⟩ : ∃ rr0 : Bool, (fk == 1 && r0) = rr0 := ⟨_, rfl⟩
  rw [hrr]
  have HT := Lib.hid hrr
  clear hrr
  have hn0 : (0 : Int) < (n : Int) := by omega
  have lb : b < w.heap.size := World.block_lt_of_cell? _ _ e0
  have lb_1 : b < w.heap.size + 1 := by omega
  have lb_2 : b < w.heap.size + 1 + 1 := by omega
  go_enter Try.func40, Try.ntmps40
  rcases Bool.eq_false_or_eq_true (fk == 1) with q1 | q1
  · skip
    have nq1 : (fk != 1) = false := by simp only [bne, q1]; rfl
    go_wp2_with fail
    have s0_ : (World.alloc (World.alloc (World.alloc w (Obj.cells #[.int .i64 5, .int .i64 g, .int .i64 l, .slice (some ⟨b, off, none⟩) n q] 28)) (Obj.cells #[.int .i64 fk, .slice fa fn fq] 38)) (Obj.cells #[.int .i64 tk, .slice ta tn tq] 38)).cell? ⟨w.heap.size + 1, 0, none⟩ = some (.int .i64 fk) := bcell bal1 (cell_new (by simp) 0)
    have s1_ : (World.alloc (World.alloc (World.alloc w (Obj.cells #[.int .i64 5, .int .i64 g, .int .i64 l, .slice (some ⟨b, off, none⟩) n q] 28)) (Obj.cells #[.int .i64 fk, .slice fa fn fq] 38)) (Obj.cells #[.int .i64 tk, .slice ta tn tq] 38)).cell? ⟨w.heap.size, 3, none⟩ = some (.slice (some ⟨b, off, none⟩) n q) := bcell bal1 (bcell bal1 (cell_new (by simp) 3))
    have s2_ : (World.alloc (World.alloc (World.alloc w (Obj.cells #[.int .i64 5, .int .i64 g, .int .i64 l, .slice (some ⟨b, off, none⟩) n q] 28)) (Obj.cells #[.int .i64 fk, .slice fa fn fq] 38)) (Obj.cells #[.int .i64 tk, .slice ta tn tq] 38)).cell? ⟨b, off, none⟩ = some (.int .i64 k0) := bcell bal1 (bcell bal1 (bcell bal1 (e0)))
    have s3_ : (World.alloc (World.alloc (World.alloc w (Obj.cells #[.int .i64 5, .int .i64 g, .int .i64 l, .slice (some ⟨b, off, none⟩) n q] 28)) (Obj.cells #[.int .i64 fk, .slice fa fn fq] 38)) (Obj.cells #[.int .i64 tk, .slice ta tn tq] 38)).cell? ⟨b, off + 1, none⟩ = some (.int .i64 g0) := bcell bal1 (bcell bal1 (bcell bal1 (e1)))
    have s4_ : (World.alloc (World.alloc (World.alloc w (Obj.cells #[.int .i64 5, .int .i64 g, .int .i64 l, .slice (some ⟨b, off, none⟩) n q] 28)) (Obj.cells #[.int .i64 fk, .slice fa fn fq] 38)) (Obj.cells #[.int .i64 tk, .slice ta tn tq] 38)).cell? ⟨b, off + 2, none⟩ = some (.int .i64 l0) := bcell bal1 (bcell bal1 (bcell bal1 (e2)))
    have s5_ : (World.alloc (World.alloc (World.alloc w (Obj.cells #[.int .i64 5, .int .i64 g, .int .i64 l, .slice (some ⟨b, off, none⟩) n q] 28)) (Obj.cells #[.int .i64 fk, .slice fa fn fq] 38)) (Obj.cells #[.int .i64 tk, .slice ta tn tq] 38)).cell? ⟨b, off + 3, none⟩ = some (.slice a0 n0 q0) := bcell bal1 (bcell bal1 (bcell bal1 (e3)))
    have s6_ : (World.alloc (World.alloc (World.alloc w (Obj.cells #[.int .i64 5, .int .i64 g, .int .i64 l, .slice (some ⟨b, off, none⟩) n q] 28)) (Obj.cells #[.int .i64 fk, .slice fa fn fq] 38)) (Obj.cells #[.int .i64 tk, .slice ta tn tq] 38)).cell? ⟨w.heap.size + 1 + 1, 0, none⟩ = some (.int .i64 tk) := cell_new (by simp) 0
    have s7_ : (World.alloc (World.alloc (World.alloc w (Obj.cells #[.int .i64 5, .int .i64 g, .int .i64 l, .slice (some ⟨b, off, none⟩) n q] 28)) (Obj.cells #[.int .i64 fk, .slice fa fn fq] 38)) (Obj.cells #[.int .i64 tk, .slice ta tn tq] 38)).cell? ⟨w.heap.size + 1 + 1, 1, none⟩ = some (.slice ta tn tq) := cell_new (by simp) 1
    have hS0 := Lib.hid (show (World.drew (World.alloc (World.alloc (World.alloc w (Obj.cells #[.int .i64 5, .int .i64 g, .int .i64 l, .slice (some ⟨b, off, none⟩) n q] 28)) (Obj.cells #[.int .i64 fk, .slice fa fn fq] 38)) (Obj.cells #[.int .i64 tk, .slice ta tn tq] 38))).cell? ⟨w.heap.size + 1, 0, none⟩ = some (.int .i64 fk) ∧ (World.drew (World.alloc (World.alloc (World.alloc w (Obj.cells #[.int .i64 5, .int .i64 g, .int .i64 l, .slice (some ⟨b, off, none⟩) n q] 28)) (Obj.cells #[.int .i64 fk, .slice fa fn fq] 38)) (Obj.cells #[.int .i64 tk, .slice ta tn tq] 38))).cell? ⟨w.heap.size, 3, none⟩ = some (.slice (some ⟨b, off, none⟩) n q) ∧ (World.drew (World.alloc (World.alloc (World.alloc w (Obj.cells #[.int .i64 5, .int .i64 g, .int .i64 l, .slice (some ⟨b, off, none⟩) n q] 28)) (Obj.cells #[.int .i64 fk, .slice fa fn fq] 38)) (Obj.cells #[.int .i64 tk, .slice ta tn tq] 38))).cell? ⟨b, off, none⟩ = some (.int .i64 k0) ∧ (World.drew (World.alloc (World.alloc (World.alloc w (Obj.cells #[.int .i64 5, .int .i64 g, .int .i64 l, .slice (some ⟨b, off, none⟩) n q] 28)) (Obj.cells #[.int .i64 fk, .slice fa fn fq] 38)) (Obj.cells #[.int .i64 tk, .slice ta tn tq] 38))).cell? ⟨b, off + 1, none⟩ = some (.int .i64 g0) ∧ (World.drew (World.alloc (World.alloc (World.alloc w (Obj.cells #[.int .i64 5, .int .i64 g, .int .i64 l, .slice (some ⟨b, off, none⟩) n q] 28)) (Obj.cells #[.int .i64 fk, .slice fa fn fq] 38)) (Obj.cells #[.int .i64 tk, .slice ta tn tq] 38))).cell? ⟨b, off + 2, none⟩ = some (.int .i64 l0) ∧ (World.drew (World.alloc (World.alloc (World.alloc w (Obj.cells #[.int .i64 5, .int .i64 g, .int .i64 l, .slice (some ⟨b, off, none⟩) n q] 28)) (Obj.cells #[.int .i64 fk, .slice fa fn fq] 38)) (Obj.cells #[.int .i64 tk, .slice ta tn tq] 38))).cell? ⟨b, off + 3, none⟩ = some (.slice a0 n0 q0) ∧ (World.drew (World.alloc (World.alloc (World.alloc w (Obj.cells #[.int .i64 5, .int .i64 g, .int .i64 l, .slice (some ⟨b, off, none⟩) n q] 28)) (Obj.cells #[.int .i64 fk, .slice fa fn fq] 38)) (Obj.cells #[.int .i64 tk, .slice ta tn tq] 38))).cell? ⟨w.heap.size + 1 + 1, 0, none⟩ = some (.int .i64 tk) ∧ (World.drew (World.alloc (World.alloc (World.alloc w (Obj.cells #[.int .i64 5, .int .i64 g, .int .i64 l, .slice (some ⟨b, off, none⟩) n q] 28)) (Obj.cells #[.int .i64 fk, .slice fa fn fq] 38)) (Obj.cells #[.int .i64 tk, .slice ta tn tq] 38))).cell? ⟨w.heap.size + 1 + 1, 1, none⟩ = some (.slice ta tn tq) from ⟨dcell (s0_), dcell (s1_), dcell (s2_), dcell (s3_), dcell (s4_), dcell (s5_), dcell (s6_), dcell (s7_)⟩)
    have hSb := Lib.hid (show ∀ X Y : World, Below X.heap.size X Y → (X.cell? ⟨w.heap.size + 1, 0, none⟩ = some (.int .i64 fk) ∧ X.cell? ⟨w.heap.size, 3, none⟩ = some (.slice (some ⟨b, off, none⟩) n q) ∧ X.cell? ⟨b, off, none⟩ = some (.int .i64 k0) ∧ X.cell? ⟨b, off + 1, none⟩ = some (.int .i64 g0) ∧ X.cell? ⟨b, off + 2, none⟩ = some (.int .i64 l0) ∧ X.cell? ⟨b, off + 3, none⟩ = some (.slice a0 n0 q0) ∧ X.cell? ⟨w.heap.size + 1 + 1, 0, none⟩ = some (.int .i64 tk) ∧ X.cell? ⟨w.heap.size + 1 + 1, 1, none⟩ = some (.slice ta tn tq)) → (Y.cell? ⟨w.heap.size + 1, 0, none⟩ = some (.int .i64 fk) ∧ Y.cell? ⟨w.heap.size, 3, none⟩ = some (.slice (some ⟨b, off, none⟩) n q) ∧ Y.cell? ⟨b, off, none⟩ = some (.int .i64 k0) ∧ Y.cell? ⟨b, off + 1, none⟩ = some (.int .i64 g0) ∧ Y.cell? ⟨b, off + 2, none⟩ = some (.int .i64 l0) ∧ Y.cell? ⟨b, off + 3, none⟩ = some (.slice a0 n0 q0) ∧ Y.cell? ⟨w.heap.size + 1 + 1, 0, none⟩ = some (.int .i64 tk) ∧ Y.cell? ⟨w.heap.size + 1 + 1, 1, none⟩ = some (.slice ta tn tq)) from fun X Y h s => ⟨bcell h s.1, bcell h s.2.1, bcell h s.2.2.1, bcell h s.2.2.2.1, bcell h s.2.2.2.2.1, bcell h s.2.2.2.2.2.1, bcell h s.2.2.2.2.2.2.1, bcell h s.2.2.2.2.2.2.2⟩)
    go_region_held3 (fun w' => w'.cell? ⟨w.heap.size + 1, 0, none⟩ = some (.int .i64 fk) ∧ w'.cell? ⟨w.heap.size, 3, none⟩ = some (.slice (some ⟨b, off, none⟩) n q) ∧ w'.cell? ⟨b, off, none⟩ = some (.int .i64 k0) ∧ w'.cell? ⟨b, off + 1, none⟩ = some (.int .i64 g0) ∧ w'.cell? ⟨b, off + 2, none⟩ = some (.int .i64 l0) ∧ w'.cell? ⟨b, off + 3, none⟩ = some (.slice a0 n0 q0) ∧ w'.cell? ⟨w.heap.size + 1 + 1, 0, none⟩ = some (.int .i64 tk) ∧ w'.cell? ⟨w.heap.size + 1 + 1, 1, none⟩ = some (.slice ta tn tq))
      (repeat (first | with_reducible refine hSb.out _ _ hb3 ?_ | with_reducible refine hSb.out _ _ hb2 ?_ | with_reducible refine hSb.out _ _ hb1 ?_ | with_reducible exact hS0.out))
      (first | (go_at_call 48; ((with_reducible refine (HTg.out _ bal3.drew).mono ?_); rintro e w1 ⟨rfl, hb1⟩)) | (go_at_call 56; ((with_reducible refine (implGround tg _).mono ?_); rintro e w2 ⟨v2, rfl, hv2, hb2⟩; obtain ⟨kr2, ar2, nr2, qr2, rfl⟩ := hv2.shape)) | (go_at_call 40; ((with_reducible refine (H0.out _ (bstep (bstep bal3.drew hb1) hb2) _ _ (hv2.rep)).mono ?_); rintro e w3 ⟨rfl, hb3⟩)))
    clear s0_ s1_ s2_ s3_ s4_ s5_ s6_ s7_
    have hB := (bstep (bstep (bstep bal3.drew hb1) hb2) hb3)
    have zw3 := hB.size
    go_wp2_with fail
    refine bodyPost_ret (v := .bool (r0)) (by simp [results, Try.results40, go_sem, bne]) rfl ?_
    exact ⟨ret_bool ((leaf_ldimpl5_7 fk r0 q1).trans HT.out), hB⟩
  · skip
    have nq1 : (fk != 1) = true := by simp only [bne, q1]; rfl
    go_wp2_with fail
    have s0_ : (World.alloc (World.alloc (World.alloc w (Obj.cells #[.int .i64 5, .int .i64 g, .int .i64 l, .slice (some ⟨b, off, none⟩) n q] 28)) (Obj.cells #[.int .i64 fk, .slice fa fn fq] 38)) (Obj.cells #[.int .i64 tk, .slice ta tn tq] 38)).cell? ⟨w.heap.size + 1, 0, none⟩ = some (.int .i64 fk) := bcell bal1 (cell_new (by simp) 0)
    refine wp_region_noPanic ?_
    refine wp_region_held_drew (S := fun w' => w'.cell? ⟨w.heap.size + 1, 0, none⟩ = some (.int .i64 fk)) (by kernel_rfl) ?_ (fun hHeld0 => ?_)
    · exact dcell (s0_)
    refine wpAnyH_take (i := 0) (oi := oLb61) (v := .pointer (some ⟨w.heap.size + 1, 0, none⟩)) rfl (by kernel_rfl) (by kernel_rfl) (by kernel_rfl) (fun _ _ _ h => h) (Or.inl ⟨by rfl, ?_⟩) hHeld0 ?_
    · intro w' hSw; (try dsimp only at hSw); dsimp only [oLb61]; go_simp
    (try simp only [oLb61, Act.put, List.setIfInBounds_toArray, List.set_cons_zero, List.set_cons_succ])
    refine wpAnyH_take (i := 1) (oi := oLb62) (v := .int .i64 fk) rfl (by kernel_rfl) (by kernel_rfl) (by kernel_rfl) (fun _ _ _ h => h) (Or.inl ⟨by rfl, ?_⟩) hHeld0 ?_
    · intro w' hSw; (try dsimp only at hSw); dsimp only [oLb62]; go_simp
    (try simp only [oLb62, Act.put, List.setIfInBounds_toArray, List.set_cons_zero, List.set_cons_succ])
    refine wpAnyH_take (i := 2) (oi := oLb63) (v := .bool false) rfl (by kernel_rfl) (by kernel_rfl) (by kernel_rfl) (fun _ _ _ h => h) (Or.inl ⟨by rfl, ?_⟩) hHeld0 ?_
    · intro w' hSw; (try dsimp only at hSw); dsimp only [oLb63]; go_simp
    (try simp only [oLb63, Act.put, List.setIfInBounds_toArray, List.set_cons_zero, List.set_cons_succ])
    refine wpAnyH_take (i := 3) (oi := oLb64) (v := .bool false) rfl (by kernel_rfl) (by kernel_rfl) (by kernel_rfl) (fun _ _ _ h => h) (Or.inl ⟨by rfl, ?_⟩) hHeld0 ?_
    · intro w' hSw; (try dsimp only at hSw); dsimp only [oLb64]; go_simp
    (try simp only [oLb64, Act.put, List.setIfInBounds_toArray, List.set_cons_zero, List.set_cons_succ])
    refine wpAnyH_take (i := 4) (oi := oLb65) (v := undef) rfl (by kernel_rfl) (by kernel_rfl) (by kernel_rfl) (fun _ _ _ h => h) (Or.inr ⟨by rfl, rfl⟩) hHeld0 ?_
    (try simp only [oLb65, Act.put, List.setIfInBounds_toArray, List.set_cons_zero, List.set_cons_succ])
    refine wpAnyH_take (i := 5) (oi := oLb66) (v := undef) rfl (by kernel_rfl) (by kernel_rfl) (by kernel_rfl) (fun _ _ _ h => h) (Or.inr ⟨by rfl, rfl⟩) hHeld0 ?_
    (try simp only [oLb66, Act.put, List.setIfInBounds_toArray, List.set_cons_zero, List.set_cons_succ])
    refine wpAnyH_take (i := 6) (oi := oLb67) (v := undef) rfl (by kernel_rfl) (by kernel_rfl) (by kernel_rfl) (fun _ _ _ h => h) (Or.inr ⟨by rfl, rfl⟩) hHeld0 ?_
    (try simp only [oLb67, Act.put, List.setIfInBounds_toArray, List.set_cons_zero, List.set_cons_succ])
    refine wpAnyH_take (i := 7) (oi := oLb68) (v := undef) rfl (by kernel_rfl) (by kernel_rfl) (by kernel_rfl) (fun _ _ _ h => h) (Or.inr ⟨by rfl, rfl⟩) hHeld0 ?_
    (try simp only [oLb68, Act.put, List.setIfInBounds_toArray, List.set_cons_zero, List.set_cons_succ])
    refine wpAnyH_take (i := 8) (oi := oLb69) (v := undef) rfl (by kernel_rfl) (by kernel_rfl) (by kernel_rfl) (fun _ _ _ h => h) (Or.inr ⟨by rfl, rfl⟩) hHeld0 ?_
    (try simp only [oLb69, Act.put, List.setIfInBounds_toArray, List.set_cons_zero, List.set_cons_succ])
    refine wpAnyH_take (i := 9) (oi := oLb70) (v := undef) rfl (by kernel_rfl) (by kernel_rfl) (by kernel_rfl) (fun _ _ _ h => h) (Or.inr ⟨by rfl, rfl⟩) hHeld0 ?_
    (try simp only [oLb70, Act.put, List.setIfInBounds_toArray, List.set_cons_zero, List.set_cons_succ])
    refine wpAnyH_take (i := 10) (oi := oLb71) (v := undef) rfl (by kernel_rfl) (by kernel_rfl) (by kernel_rfl) (fun _ _ _ h => h) (Or.inr ⟨by rfl, rfl⟩) hHeld0 ?_
    (try simp only [oLb71, Act.put, List.setIfInBounds_toArray, List.set_cons_zero, List.set_cons_succ])
    refine wpAnyH_take (i := 11) (oi := oLb72) (v := undef) rfl (by kernel_rfl) (by kernel_rfl) (by kernel_rfl) (fun _ _ _ h => h) (Or.inr ⟨by rfl, rfl⟩) hHeld0 ?_
    (try simp only [oLb72, Act.put, List.setIfInBounds_toArray, List.set_cons_zero, List.set_cons_succ])
    refine wpAnyH_take (i := 12) (oi := oLb73) (v := undef) rfl (by kernel_rfl) (by kernel_rfl) (by kernel_rfl) (fun _ _ _ h => h) (Or.inr ⟨by rfl, rfl⟩) hHeld0 ?_
    (try simp only [oLb73, Act.put, List.setIfInBounds_toArray, List.set_cons_zero, List.set_cons_succ])
    refine wpAnyH_take (i := 13) (oi := oLb74) (v := undef) rfl (by kernel_rfl) (by kernel_rfl) (by kernel_rfl) (fun _ _ _ h => h) (Or.inr ⟨by rfl, rfl⟩) hHeld0 ?_
    (try simp only [oLb74, Act.put, List.setIfInBounds_toArray, List.set_cons_zero, List.set_cons_succ])
    refine wpAnyH_take (i := 14) (oi := oLb75) (v := undef) rfl (by kernel_rfl) (by kernel_rfl) (by kernel_rfl) (fun _ _ _ h => h) (Or.inr ⟨by rfl, rfl⟩) hHeld0 ?_
    (try simp only [oLb75, Act.put, List.setIfInBounds_toArray, List.set_cons_zero, List.set_cons_succ])
    refine wpAnyH_take (i := 15) (oi := oLb76) (v := undef) rfl (by kernel_rfl) (by kernel_rfl) (by kernel_rfl) (fun _ _ _ h => h) (Or.inr ⟨by rfl, rfl⟩) hHeld0 ?_
    (try simp only [oLb76, Act.put, List.setIfInBounds_toArray, List.set_cons_zero, List.set_cons_succ])
    refine wpAnyH_take (i := 16) (oi := oLb77) (v := .bool false) rfl (by kernel_rfl) (by kernel_rfl) (by kernel_rfl) (fun _ _ _ h => h) (Or.inl ⟨by rfl, ?_⟩) hHeld0 ?_
    · intro w' hSw; (try dsimp only at hSw); dsimp only [oLb77]; go_simp
    (try simp only [oLb77, Act.put, List.setIfInBounds_toArray, List.set_cons_zero, List.set_cons_succ])
    refine wpAnyH_take (i := 17) (oi := oLb78) (v := .bool false) rfl (by kernel_rfl) (by kernel_rfl) (by kernel_rfl) (fun _ _ _ h => h) (Or.inl ⟨by rfl, ?_⟩) hHeld0 ?_
    · intro w' hSw; (try dsimp only at hSw); dsimp only [oLb78]; go_simp
    (try simp only [oLb78, Act.put, List.setIfInBounds_toArray, List.set_cons_zero, List.set_cons_succ])
    refine wpAnyH_done (by kernel_rfl) ?_ _
    refine NoPanic.normal ?_
    clear hHeld0 s0_
    go_wp2_with fail
    refine bodyPost_ret (v := .bool (false)) (by simp [results, Try.results40, go_sem, bne]) rfl ?_
    exact ⟨ret_bool ((leaf_ldimpl5_8 fk r0 q1).trans HT.out), bal3.drew⟩
end Go.Proofs.Ythhdjacdalehoaa
