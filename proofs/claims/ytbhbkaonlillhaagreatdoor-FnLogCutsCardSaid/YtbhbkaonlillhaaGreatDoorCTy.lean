/- Facts on the types of the program. -/
import Derived.Test.YtbhbkaonlillhaaGreatDoorAbc
import Derived.Test.YtbhbkaonlillhaaGreatDoorProg
import Derived.KernelRfl
namespace Go.Proofs.YtbhbkaonlillhaaGreatDoor
open Go Go.Abs Go.Proofs
@[simp] theorem cellE_3 : Abs.cellE Tryz.prog 3 = [0] := by kernel_rfl
@[simp] theorem cellE_4 : Abs.cellE Tryz.prog 4 = [0] := by kernel_rfl
@[simp] theorem cellE_5 : Abs.cellE Tryz.prog 5 = [0] := by kernel_rfl
@[simp] theorem cellE_9 : Abs.cellE Tryz.prog 9 = [0] := by kernel_rfl
@[simp] theorem cellE_22 : Abs.cellE Tryz.prog 22 = [5] := by kernel_rfl
@[simp] theorem cellE_26 : Abs.cellE Tryz.prog 26 = [3] := by kernel_rfl
@[simp] theorem cellE_28 : Abs.cellE Tryz.prog 28 = [161] := by kernel_rfl
@[simp] theorem cellE_30 : Abs.cellE Tryz.prog 30 = [161] := by kernel_rfl
@[simp] theorem cellE_35 : Abs.cellE Tryz.prog 35 = [0, 0, 0, 0, 0] := by kernel_rfl
@[simp] theorem cellE_38 : Abs.cellE Tryz.prog 38 = [57] := by kernel_rfl
@[simp] theorem cellE_40 : Abs.cellE Tryz.prog 40 = [57, 0] := by kernel_rfl
@[simp] theorem cellE_55 : Abs.cellE Tryz.prog 55 = [121] := by kernel_rfl
@[simp] theorem cellE_57 : Abs.cellE Tryz.prog 57 = [0, 0, 0, 0, 0, 0, 0, 121, 0] := by kernel_rfl
@[simp] theorem cellE_61 : Abs.cellE Tryz.prog 61 = [178, 0] := by kernel_rfl
@[simp] theorem cellE_62 : Abs.cellE Tryz.prog 62 = [0, 0, 0, 0, 0] := by kernel_rfl
@[simp] theorem cellE_86 : Abs.cellE Tryz.prog 86 = [0, 0, 0, 0] := by kernel_rfl
@[simp] theorem cellE_91 : Abs.cellE Tryz.prog 91 = [191] := by kernel_rfl
@[simp] theorem cellE_121 : Abs.cellE Tryz.prog 121 = [0, 0] := by kernel_rfl
@[simp] theorem cellE_154 : Abs.cellE Tryz.prog 154 = [5, 0, 0] := by kernel_rfl
@[simp] theorem cellE_161 : Abs.cellE Tryz.prog 161 = [0, 0, 0] := by kernel_rfl
@[simp] theorem cellE_178 : Abs.cellE Tryz.prog 178 = [0, 0, 0, 0, 0, 0, 0, 242, 0] := by kernel_rfl
@[simp] theorem cellE_191 : Abs.cellE Tryz.prog 191 = [0, 0, 0] := by kernel_rfl
@[simp] theorem cellE_217 : Abs.cellE Tryz.prog 217 = [0] := by kernel_rfl
@[simp] theorem cellE_219 : Abs.cellE Tryz.prog 219 = [0, 5] := by kernel_rfl
@[simp] theorem cellE_233 : Abs.cellE Tryz.prog 233 = [0] := by kernel_rfl
@[simp] theorem cellE_242 : Abs.cellE Tryz.prog 242 = [0, 0] := by kernel_rfl
@[simp] theorem cvOf_3_5 : Abs.cvOf Tryz.prog 3 5 = some (Cv.int IntKind.u8) := by kernel_rfl
@[simp] theorem cvOf_3_155 : Abs.cvOf Tryz.prog 3 155 = some (Cv.int IntKind.u64) := by kernel_rfl
@[simp] theorem cvOf_3_233 : Abs.cvOf Tryz.prog 3 233 = some (Cv.int IntKind.u64) := by kernel_rfl
@[simp] theorem cvOf_5_3 : Abs.cvOf Tryz.prog 5 3 = some (Cv.int IntKind.i64) := by kernel_rfl
@[simp] theorem cvOf_5_157 : Abs.cvOf Tryz.prog 5 157 = some (Cv.int IntKind.u32) := by kernel_rfl
@[simp] theorem cvOf_22_9 : Abs.cvOf Tryz.prog 22 9 = some (Cv.bytes 5) := by kernel_rfl
@[simp] theorem cvOf_155_3 : Abs.cvOf Tryz.prog 155 3 = some (Cv.int IntKind.i64) := by kernel_rfl
@[simp] theorem cvOf_157_5 : Abs.cvOf Tryz.prog 157 5 = some (Cv.int IntKind.u8) := by kernel_rfl
@[simp] theorem cvOf_217_254 : Abs.cvOf Tryz.prog 217 254 = none := by kernel_rfl
@[simp] theorem cvOf_254_217 : Abs.cvOf Tryz.prog 254 217 = none := by kernel_rfl
@[simp] theorem einfo_3 : Abs.einfo Tryz.prog 3 = some (1, 8, [AV.c (Cell.sc (Value.int IntKind.i64 (0)))]) := by kernel_rfl
@[simp] theorem einfo_5 : Abs.einfo Tryz.prog 5 = some (1, 1, [AV.c (Cell.sc (Value.int IntKind.u8 (0)))]) := by kernel_rfl
@[simp] theorem einfo_9 : Abs.einfo Tryz.prog 9 = some (1, 16, [AV.c (Cell.sc (Value.string ⟨#[]⟩))]) := by kernel_rfl
@[simp] theorem einfo_35 : Abs.einfo Tryz.prog 35 = some (5, 56, [AV.c (Cell.sc (Value.int IntKind.i64 (0))), AV.c (Cell.sc (Value.string ⟨#[]⟩)), AV.c (Cell.sc (Value.string ⟨#[]⟩)), AV.c (Cell.sc (Value.int IntKind.i64 (0))), AV.c (Cell.sc (Value.int IntKind.i64 (0)))]) := by kernel_rfl
@[simp] theorem einfo_57 : Abs.einfo Tryz.prog 57 = some (9, 96, [AV.c (Cell.sc (Value.int IntKind.i64 (0))), AV.c (Cell.sc (Value.int IntKind.i64 (0))), AV.c (Cell.sc (Value.string ⟨#[]⟩)), AV.c (Cell.sc (Value.bool false)), AV.c (Cell.sc (Value.int IntKind.i64 (0))), AV.c (Cell.sc (Value.int IntKind.i64 (0))), AV.c (Cell.sc (Value.int IntKind.i64 (0))), AV.nils, AV.c (Cell.sc (Value.int IntKind.i64 (0)))]) := by kernel_rfl
@[simp] theorem einfo_86 : Abs.einfo Tryz.prog 86 = some (4, 56, [AV.c (Cell.sc (Value.int IntKind.i64 (0))), AV.c (Cell.sc (Value.string ⟨#[]⟩)), AV.c (Cell.sc (Value.string ⟨#[]⟩)), AV.c (Cell.sc (Value.string ⟨#[]⟩))]) := by kernel_rfl
@[simp] theorem einfo_121 : Abs.einfo Tryz.prog 121 = some (2, 16, [AV.c (Cell.sc (Value.int IntKind.i64 (0))), AV.c (Cell.sc (Value.int IntKind.i64 (0)))]) := by kernel_rfl
@[simp] theorem einfo_161 : Abs.einfo Tryz.prog 161 = some (3, 40, [AV.c (Cell.sc (Value.string ⟨#[]⟩)), AV.c (Cell.sc (Value.string ⟨#[]⟩)), AV.c (Cell.sc (Value.int IntKind.i64 (0)))]) := by kernel_rfl
@[simp] theorem elOk_9 : Abs.elOk Tryz.prog 9 = true := by kernel_rfl
@[simp] theorem elOk_22 : Abs.elOk Tryz.prog 22 = true := by kernel_rfl
@[simp] theorem elOk_24 : Abs.elOk Tryz.prog 24 = true := by kernel_rfl
@[simp] theorem elOk_26 : Abs.elOk Tryz.prog 26 = true := by kernel_rfl
@[simp] theorem elOk_28 : Abs.elOk Tryz.prog 28 = true := by kernel_rfl
@[simp] theorem elOk_31 : Abs.elOk Tryz.prog 31 = true := by kernel_rfl
@[simp] theorem elOk_38 : Abs.elOk Tryz.prog 38 = true := by kernel_rfl
@[simp] theorem elOk_55 : Abs.elOk Tryz.prog 55 = true := by kernel_rfl
@[simp] theorem elOk_59 : Abs.elOk Tryz.prog 59 = true := by kernel_rfl
@[simp] theorem elOk_76 : Abs.elOk Tryz.prog 76 = true := by kernel_rfl
@[simp] theorem elOk_79 : Abs.elOk Tryz.prog 79 = true := by kernel_rfl
@[simp] theorem elOk_89 : Abs.elOk Tryz.prog 89 = true := by kernel_rfl
@[simp] theorem elOk_176 : Abs.elOk Tryz.prog 176 = true := by kernel_rfl
@[simp] theorem elemOf_9 : Abs.elemOf Tryz.prog 9 = none := by kernel_rfl
@[simp] theorem elemOf_22 : Abs.elemOf Tryz.prog 22 = some 5 := by kernel_rfl
@[simp] theorem elemOf_24 : Abs.elemOf Tryz.prog 24 = some 35 := by kernel_rfl
@[simp] theorem elemOf_26 : Abs.elemOf Tryz.prog 26 = some 3 := by kernel_rfl
@[simp] theorem elemOf_28 : Abs.elemOf Tryz.prog 28 = some 161 := by kernel_rfl
@[simp] theorem elemOf_31 : Abs.elemOf Tryz.prog 31 = some 86 := by kernel_rfl
@[simp] theorem elemOf_38 : Abs.elemOf Tryz.prog 38 = some 57 := by kernel_rfl
@[simp] theorem elemOf_55 : Abs.elemOf Tryz.prog 55 = some 121 := by kernel_rfl
@[simp] theorem elemOf_59 : Abs.elemOf Tryz.prog 59 = some 178 := by kernel_rfl
@[simp] theorem elemOf_76 : Abs.elemOf Tryz.prog 76 = some 9 := by kernel_rfl
@[simp] theorem elemOf_79 : Abs.elemOf Tryz.prog 79 = some 62 := by kernel_rfl
@[simp] theorem elemOf_89 : Abs.elemOf Tryz.prog 89 = some 191 := by kernel_rfl
@[simp] theorem elemOf_176 : Abs.elemOf Tryz.prog 176 = some 242 := by kernel_rfl
@[simp] theorem fieldsOf_30 : Abs.fieldsOf Tryz.prog 30 = some [(0, 1)] := by kernel_rfl
@[simp] theorem fieldsOf_35 : Abs.fieldsOf Tryz.prog 35 = some [(0, 1), (1, 1), (2, 1), (3, 1), (4, 1)] := by kernel_rfl
@[simp] theorem fieldsOf_40 : Abs.fieldsOf Tryz.prog 40 = some [(0, 1), (1, 1)] := by kernel_rfl
@[simp] theorem fieldsOf_57 : Abs.fieldsOf Tryz.prog 57 = some [(0, 1), (1, 1), (2, 1), (3, 1), (4, 1), (5, 1), (6, 1), (7, 1), (8, 1)] := by kernel_rfl
@[simp] theorem fieldsOf_86 : Abs.fieldsOf Tryz.prog 86 = some [(0, 1), (1, 1), (2, 1), (3, 1)] := by kernel_rfl
@[simp] theorem fieldsOf_121 : Abs.fieldsOf Tryz.prog 121 = some [(0, 1), (1, 1)] := by kernel_rfl
@[simp] theorem fieldsOf_154 : Abs.fieldsOf Tryz.prog 154 = some [(0, 1), (1, 1), (2, 1)] := by kernel_rfl
@[simp] theorem fieldsOf_161 : Abs.fieldsOf Tryz.prog 161 = some [(0, 1), (1, 1), (2, 1)] := by kernel_rfl
@[simp] theorem flatK_35 : Abs.flatK Tryz.prog 35 = some [0, 1, 1, 0, 0] := by kernel_rfl
@[simp] theorem flatK_121 : Abs.flatK Tryz.prog 121 = some [0, 0] := by kernel_rfl
@[simp] theorem fldOf_30_0 : Abs.fldOf Tryz.prog 30 0 = some (0, false, 1) := by kernel_rfl
@[simp] theorem fldOf_35_0 : Abs.fldOf Tryz.prog 35 0 = some (0, false, 1) := by kernel_rfl
@[simp] theorem fldOf_35_1 : Abs.fldOf Tryz.prog 35 1 = some (1, false, 1) := by kernel_rfl
@[simp] theorem fldOf_35_2 : Abs.fldOf Tryz.prog 35 2 = some (2, false, 1) := by kernel_rfl
@[simp] theorem fldOf_35_3 : Abs.fldOf Tryz.prog 35 3 = some (3, false, 1) := by kernel_rfl
@[simp] theorem fldOf_35_4 : Abs.fldOf Tryz.prog 35 4 = some (4, false, 1) := by kernel_rfl
@[simp] theorem fldOf_40_0 : Abs.fldOf Tryz.prog 40 0 = some (0, false, 1) := by kernel_rfl
@[simp] theorem fldOf_40_1 : Abs.fldOf Tryz.prog 40 1 = some (1, false, 1) := by kernel_rfl
@[simp] theorem fldOf_57_0 : Abs.fldOf Tryz.prog 57 0 = some (0, false, 1) := by kernel_rfl
@[simp] theorem fldOf_57_1 : Abs.fldOf Tryz.prog 57 1 = some (1, false, 1) := by kernel_rfl
@[simp] theorem fldOf_57_2 : Abs.fldOf Tryz.prog 57 2 = some (2, false, 1) := by kernel_rfl
@[simp] theorem fldOf_57_3 : Abs.fldOf Tryz.prog 57 3 = some (3, false, 1) := by kernel_rfl
@[simp] theorem fldOf_57_4 : Abs.fldOf Tryz.prog 57 4 = some (4, false, 1) := by kernel_rfl
@[simp] theorem fldOf_57_5 : Abs.fldOf Tryz.prog 57 5 = some (5, false, 1) := by kernel_rfl
@[simp] theorem fldOf_57_6 : Abs.fldOf Tryz.prog 57 6 = some (6, false, 1) := by kernel_rfl
@[simp] theorem fldOf_57_7 : Abs.fldOf Tryz.prog 57 7 = some (7, false, 1) := by kernel_rfl
@[simp] theorem fldOf_57_8 : Abs.fldOf Tryz.prog 57 8 = some (8, false, 1) := by kernel_rfl
@[simp] theorem fldOf_61_0 : Abs.fldOf Tryz.prog 61 0 = some (0, false, 1) := by kernel_rfl
@[simp] theorem fldOf_61_1 : Abs.fldOf Tryz.prog 61 1 = some (1, false, 1) := by kernel_rfl
@[simp] theorem fldOf_62_0 : Abs.fldOf Tryz.prog 62 0 = some (0, false, 1) := by kernel_rfl
@[simp] theorem fldOf_62_1 : Abs.fldOf Tryz.prog 62 1 = some (1, false, 1) := by kernel_rfl
@[simp] theorem fldOf_62_2 : Abs.fldOf Tryz.prog 62 2 = some (2, false, 1) := by kernel_rfl
@[simp] theorem fldOf_62_3 : Abs.fldOf Tryz.prog 62 3 = some (3, false, 1) := by kernel_rfl
@[simp] theorem fldOf_62_4 : Abs.fldOf Tryz.prog 62 4 = some (4, false, 1) := by kernel_rfl
@[simp] theorem fldOf_86_0 : Abs.fldOf Tryz.prog 86 0 = some (0, false, 1) := by kernel_rfl
@[simp] theorem fldOf_86_1 : Abs.fldOf Tryz.prog 86 1 = some (1, false, 1) := by kernel_rfl
@[simp] theorem fldOf_86_2 : Abs.fldOf Tryz.prog 86 2 = some (2, false, 1) := by kernel_rfl
@[simp] theorem fldOf_86_3 : Abs.fldOf Tryz.prog 86 3 = some (3, false, 1) := by kernel_rfl
@[simp] theorem fldOf_91_0 : Abs.fldOf Tryz.prog 91 0 = some (0, false, 1) := by kernel_rfl
@[simp] theorem fldOf_121_0 : Abs.fldOf Tryz.prog 121 0 = some (0, false, 1) := by kernel_rfl
@[simp] theorem fldOf_121_1 : Abs.fldOf Tryz.prog 121 1 = some (1, false, 1) := by kernel_rfl
@[simp] theorem fldOf_154_0 : Abs.fldOf Tryz.prog 154 0 = some (0, false, 1) := by kernel_rfl
@[simp] theorem fldOf_154_1 : Abs.fldOf Tryz.prog 154 1 = some (1, false, 1) := by kernel_rfl
@[simp] theorem fldOf_154_2 : Abs.fldOf Tryz.prog 154 2 = some (2, false, 1) := by kernel_rfl
@[simp] theorem fldOf_161_0 : Abs.fldOf Tryz.prog 161 0 = some (0, false, 1) := by kernel_rfl
@[simp] theorem fldOf_161_1 : Abs.fldOf Tryz.prog 161 1 = some (1, false, 1) := by kernel_rfl
@[simp] theorem fldOf_161_2 : Abs.fldOf Tryz.prog 161 2 = some (2, false, 1) := by kernel_rfl
@[simp] theorem fldOf_178_0 : Abs.fldOf Tryz.prog 178 0 = some (0, false, 1) := by kernel_rfl
@[simp] theorem fldOf_178_1 : Abs.fldOf Tryz.prog 178 1 = some (1, false, 1) := by kernel_rfl
@[simp] theorem fldOf_178_2 : Abs.fldOf Tryz.prog 178 2 = some (2, false, 1) := by kernel_rfl
@[simp] theorem fldOf_178_3 : Abs.fldOf Tryz.prog 178 3 = some (3, false, 1) := by kernel_rfl
@[simp] theorem fldOf_178_4 : Abs.fldOf Tryz.prog 178 4 = some (4, false, 1) := by kernel_rfl
@[simp] theorem fldOf_178_5 : Abs.fldOf Tryz.prog 178 5 = some (5, false, 1) := by kernel_rfl
@[simp] theorem fldOf_178_6 : Abs.fldOf Tryz.prog 178 6 = some (6, false, 1) := by kernel_rfl
@[simp] theorem fldOf_178_7 : Abs.fldOf Tryz.prog 178 7 = some (7, false, 1) := by kernel_rfl
@[simp] theorem fldOf_178_8 : Abs.fldOf Tryz.prog 178 8 = some (8, false, 1) := by kernel_rfl
@[simp] theorem fldOf_191_0 : Abs.fldOf Tryz.prog 191 0 = some (0, false, 1) := by kernel_rfl
@[simp] theorem fldOf_191_1 : Abs.fldOf Tryz.prog 191 1 = some (1, false, 1) := by kernel_rfl
@[simp] theorem fldOf_191_2 : Abs.fldOf Tryz.prog 191 2 = some (2, false, 1) := by kernel_rfl
@[simp] theorem fldOf_219_0 : Abs.fldOf Tryz.prog 219 0 = some (0, false, 1) := by kernel_rfl
@[simp] theorem fldOf_219_1 : Abs.fldOf Tryz.prog 219 1 = some (1, false, 1) := by kernel_rfl
@[simp] theorem fldOf_242_0 : Abs.fldOf Tryz.prog 242 0 = some (0, false, 1) := by kernel_rfl
@[simp] theorem fldOf_242_1 : Abs.fldOf Tryz.prog 242 1 = some (1, false, 1) := by kernel_rfl
@[simp] theorem isBool_3 : Abs.isBool Tryz.prog 3 = false := by kernel_rfl
@[simp] theorem isBool_4 : Abs.isBool Tryz.prog 4 = true := by kernel_rfl
@[simp] theorem isBool_5 : Abs.isBool Tryz.prog 5 = false := by kernel_rfl
@[simp] theorem isBool_9 : Abs.isBool Tryz.prog 9 = false := by kernel_rfl
@[simp] theorem isBool_35 : Abs.isBool Tryz.prog 35 = false := by kernel_rfl
@[simp] theorem isBool_121 : Abs.isBool Tryz.prog 121 = false := by kernel_rfl
@[simp] theorem isBool_157 : Abs.isBool Tryz.prog 157 = false := by kernel_rfl
@[simp] theorem isBool_200 : Abs.isBool Tryz.prog 200 = false := by kernel_rfl
@[simp] theorem isBool_217 : Abs.isBool Tryz.prog 217 = false := by kernel_rfl
@[simp] theorem lenK_9 : Abs.lenK Tryz.prog 9 = some true := by kernel_rfl
@[simp] theorem lenK_22 : Abs.lenK Tryz.prog 22 = some false := by kernel_rfl
@[simp] theorem lenK_24 : Abs.lenK Tryz.prog 24 = some false := by kernel_rfl
@[simp] theorem lenK_26 : Abs.lenK Tryz.prog 26 = some false := by kernel_rfl
@[simp] theorem lenK_28 : Abs.lenK Tryz.prog 28 = some false := by kernel_rfl
@[simp] theorem lenK_31 : Abs.lenK Tryz.prog 31 = some false := by kernel_rfl
@[simp] theorem lenK_38 : Abs.lenK Tryz.prog 38 = some false := by kernel_rfl
@[simp] theorem lenK_55 : Abs.lenK Tryz.prog 55 = some false := by kernel_rfl
@[simp] theorem lenK_59 : Abs.lenK Tryz.prog 59 = some false := by kernel_rfl
@[simp] theorem lenK_76 : Abs.lenK Tryz.prog 76 = some false := by kernel_rfl
@[simp] theorem lenK_79 : Abs.lenK Tryz.prog 79 = some false := by kernel_rfl
@[simp] theorem lenK_89 : Abs.lenK Tryz.prog 89 = some false := by kernel_rfl
@[simp] theorem lenK_176 : Abs.lenK Tryz.prog 176 = some false := by kernel_rfl
@[simp] theorem tinfo_3 : Abs.tinfo Tryz.prog 3 = some (false, 1) := by kernel_rfl
@[simp] theorem tinfo_4 : Abs.tinfo Tryz.prog 4 = some (false, 1) := by kernel_rfl
@[simp] theorem tinfo_5 : Abs.tinfo Tryz.prog 5 = some (false, 1) := by kernel_rfl
@[simp] theorem tinfo_9 : Abs.tinfo Tryz.prog 9 = some (false, 1) := by kernel_rfl
@[simp] theorem tinfo_22 : Abs.tinfo Tryz.prog 22 = some (false, 1) := by kernel_rfl
@[simp] theorem tinfo_26 : Abs.tinfo Tryz.prog 26 = some (false, 1) := by kernel_rfl
@[simp] theorem tinfo_28 : Abs.tinfo Tryz.prog 28 = some (false, 1) := by kernel_rfl
@[simp] theorem tinfo_30 : Abs.tinfo Tryz.prog 30 = some (true, 1) := by kernel_rfl
@[simp] theorem tinfo_35 : Abs.tinfo Tryz.prog 35 = some (true, 5) := by kernel_rfl
@[simp] theorem tinfo_38 : Abs.tinfo Tryz.prog 38 = some (false, 1) := by kernel_rfl
@[simp] theorem tinfo_40 : Abs.tinfo Tryz.prog 40 = some (true, 2) := by kernel_rfl
@[simp] theorem tinfo_55 : Abs.tinfo Tryz.prog 55 = some (false, 1) := by kernel_rfl
@[simp] theorem tinfo_57 : Abs.tinfo Tryz.prog 57 = some (true, 9) := by kernel_rfl
@[simp] theorem tinfo_59 : Abs.tinfo Tryz.prog 59 = some (false, 1) := by kernel_rfl
@[simp] theorem tinfo_61 : Abs.tinfo Tryz.prog 61 = some (true, 2) := by kernel_rfl
@[simp] theorem tinfo_62 : Abs.tinfo Tryz.prog 62 = some (true, 5) := by kernel_rfl
@[simp] theorem tinfo_86 : Abs.tinfo Tryz.prog 86 = some (true, 4) := by kernel_rfl
@[simp] theorem tinfo_89 : Abs.tinfo Tryz.prog 89 = some (false, 1) := by kernel_rfl
@[simp] theorem tinfo_91 : Abs.tinfo Tryz.prog 91 = some (true, 1) := by kernel_rfl
@[simp] theorem tinfo_121 : Abs.tinfo Tryz.prog 121 = some (true, 2) := by kernel_rfl
@[simp] theorem tinfo_161 : Abs.tinfo Tryz.prog 161 = some (true, 3) := by kernel_rfl
@[simp] theorem tinfo_176 : Abs.tinfo Tryz.prog 176 = some (false, 1) := by kernel_rfl
@[simp] theorem tinfo_178 : Abs.tinfo Tryz.prog 178 = some (true, 9) := by kernel_rfl
@[simp] theorem tinfo_191 : Abs.tinfo Tryz.prog 191 = some (true, 3) := by kernel_rfl
@[simp] theorem tinfo_217 : Abs.tinfo Tryz.prog 217 = some (false, 1) := by kernel_rfl
@[simp] theorem tinfo_233 : Abs.tinfo Tryz.prog 233 = some (false, 1) := by kernel_rfl
@[simp] theorem tinfo_242 : Abs.tinfo Tryz.prog 242 = some (true, 2) := by kernel_rfl
@[simp] theorem zeroAV_3 : Abs.zeroAV Tryz.prog 3 = some (AV.c (Cell.sc (Value.int IntKind.i64 (0)))) := by kernel_rfl
@[simp] theorem zeroAV_5 : Abs.zeroAV Tryz.prog 5 = some (AV.c (Cell.sc (Value.int IntKind.u8 (0)))) := by kernel_rfl
@[simp] theorem zeroAV_9 : Abs.zeroAV Tryz.prog 9 = some (AV.c (Cell.sc (Value.string ⟨#[]⟩))) := by kernel_rfl
@[simp] theorem zeroAV_26 : Abs.zeroAV Tryz.prog 26 = some AV.nils := by kernel_rfl
@[simp] theorem zeroAV_30 : Abs.zeroAV Tryz.prog 30 = some (AV.agg [AV.nils]) := by kernel_rfl
@[simp] theorem zeroAV_35 : Abs.zeroAV Tryz.prog 35 = some (AV.agg [AV.c (Cell.sc (Value.int IntKind.i64 (0))), AV.c (Cell.sc (Value.string ⟨#[]⟩)), AV.c (Cell.sc (Value.string ⟨#[]⟩)), AV.c (Cell.sc (Value.int IntKind.i64 (0))), AV.c (Cell.sc (Value.int IntKind.i64 (0)))]) := by kernel_rfl
@[simp] theorem zeroAV_40 : Abs.zeroAV Tryz.prog 40 = some (AV.agg [AV.nils, AV.c (Cell.sc (Value.int IntKind.i64 (0)))]) := by kernel_rfl
@[simp] theorem zeroAV_57 : Abs.zeroAV Tryz.prog 57 = some (AV.agg [AV.c (Cell.sc (Value.int IntKind.i64 (0))), AV.c (Cell.sc (Value.int IntKind.i64 (0))), AV.c (Cell.sc (Value.string ⟨#[]⟩)), AV.c (Cell.sc (Value.bool false)), AV.c (Cell.sc (Value.int IntKind.i64 (0))), AV.c (Cell.sc (Value.int IntKind.i64 (0))), AV.c (Cell.sc (Value.int IntKind.i64 (0))), AV.nils, AV.c (Cell.sc (Value.int IntKind.i64 (0)))]) := by kernel_rfl
@[simp] theorem zeroAV_86 : Abs.zeroAV Tryz.prog 86 = some (AV.agg [AV.c (Cell.sc (Value.int IntKind.i64 (0))), AV.c (Cell.sc (Value.string ⟨#[]⟩)), AV.c (Cell.sc (Value.string ⟨#[]⟩)), AV.c (Cell.sc (Value.string ⟨#[]⟩))]) := by kernel_rfl
@[simp] theorem zeroAV_121 : Abs.zeroAV Tryz.prog 121 = some (AV.agg [AV.c (Cell.sc (Value.int IntKind.i64 (0))), AV.c (Cell.sc (Value.int IntKind.i64 (0)))]) := by kernel_rfl
@[simp] theorem zeroAV_154 : Abs.zeroAV Tryz.prog 154 = some (AV.agg [AV.nils, AV.c (Cell.sc (Value.int IntKind.i64 (0))), AV.c (Cell.sc (Value.int IntKind.i64 (0)))]) := by kernel_rfl
@[simp] theorem zeroAV_161 : Abs.zeroAV Tryz.prog 161 = some (AV.agg [AV.c (Cell.sc (Value.string ⟨#[]⟩)), AV.c (Cell.sc (Value.string ⟨#[]⟩)), AV.c (Cell.sc (Value.int IntKind.i64 (0)))]) := by kernel_rfl
@[simp] theorem zeroAV_219 : Abs.zeroAV Tryz.prog 219 = some (AV.agg [AV.c (Cell.sc (Value.pointer none)), AV.nils]) := by kernel_rfl
@[simp] theorem zeroAV_233 : Abs.zeroAV Tryz.prog 233 = some (AV.c (Cell.sc (Value.int IntKind.u64 (0)))) := by kernel_rfl
theorem hmo : Tryz.prog.follows .mixedOrders = true := by kernel_rfl
end Go.Proofs.YtbhbkaonlillhaaGreatDoor
