/- Facts on the types of the program. -/
import Derived.Test.YtbhbkaonlillhaaAbc
import Derived.Test.YtbhbkaonlillhaaProg
import Derived.KernelRfl
namespace Go.Proofs.Ytbhbkaonlillhaa
open Go Go.Abs Go.Proofs
@[simp] theorem cellE_3 : Abs.cellE Try.prog 3 = [0] := by kernel_rfl
@[simp] theorem cellE_4 : Abs.cellE Try.prog 4 = [0] := by kernel_rfl
@[simp] theorem cellE_5 : Abs.cellE Try.prog 5 = [0] := by kernel_rfl
@[simp] theorem cellE_9 : Abs.cellE Try.prog 9 = [0] := by kernel_rfl
@[simp] theorem cellE_24 : Abs.cellE Try.prog 24 = [0, 0, 36] := by kernel_rfl
@[simp] theorem cellE_26 : Abs.cellE Try.prog 26 = [39] := by kernel_rfl
@[simp] theorem cellE_28 : Abs.cellE Try.prog 28 = [0, 0, 39] := by kernel_rfl
@[simp] theorem cellE_36 : Abs.cellE Try.prog 36 = [0, 0, 0, 0] := by kernel_rfl
@[simp] theorem cellE_39 : Abs.cellE Try.prog 39 = [0, 0, 0, 0] := by kernel_rfl
@[simp] theorem cellE_55 : Abs.cellE Try.prog 55 = [118, 0] := by kernel_rfl
@[simp] theorem cellE_58 : Abs.cellE Try.prog 58 = [70] := by kernel_rfl
@[simp] theorem cellE_60 : Abs.cellE Try.prog 60 = [70, 0] := by kernel_rfl
@[simp] theorem cellE_68 : Abs.cellE Try.prog 68 = [105] := by kernel_rfl
@[simp] theorem cellE_70 : Abs.cellE Try.prog 70 = [0, 0, 0, 0, 0, 0, 0, 105, 0] := by kernel_rfl
@[simp] theorem cellE_105 : Abs.cellE Try.prog 105 = [0, 0] := by kernel_rfl
@[simp] theorem cellE_112 : Abs.cellE Try.prog 112 = [5, 0, 0] := by kernel_rfl
@[simp] theorem cellE_118 : Abs.cellE Try.prog 118 = [0, 0, 0, 0, 0, 0, 0, 167, 0] := by kernel_rfl
@[simp] theorem cellE_142 : Abs.cellE Try.prog 142 = [0, 0, 0, 0, 0] := by kernel_rfl
@[simp] theorem cellE_167 : Abs.cellE Try.prog 167 = [0, 0] := by kernel_rfl
@[simp] theorem cellE_176 : Abs.cellE Try.prog 176 = [0] := by kernel_rfl
@[simp] theorem cvOf_3_5 : Abs.cvOf Try.prog 3 5 = some (Cv.int IntKind.u8) := by kernel_rfl
@[simp] theorem cvOf_3_113 : Abs.cvOf Try.prog 3 113 = some (Cv.int IntKind.u64) := by kernel_rfl
@[simp] theorem cvOf_3_176 : Abs.cvOf Try.prog 3 176 = some (Cv.int IntKind.u64) := by kernel_rfl
@[simp] theorem cvOf_5_3 : Abs.cvOf Try.prog 5 3 = some (Cv.int IntKind.i64) := by kernel_rfl
@[simp] theorem cvOf_5_94 : Abs.cvOf Try.prog 5 94 = some (Cv.int IntKind.u32) := by kernel_rfl
@[simp] theorem cvOf_9_42 : Abs.cvOf Try.prog 9 42 = none := by kernel_rfl
@[simp] theorem cvOf_42_9 : Abs.cvOf Try.prog 42 9 = some (Cv.bytes 5) := by kernel_rfl
@[simp] theorem cvOf_94_3 : Abs.cvOf Try.prog 94 3 = some (Cv.int IntKind.i64) := by kernel_rfl
@[simp] theorem cvOf_113_3 : Abs.cvOf Try.prog 113 3 = some (Cv.int IntKind.i64) := by kernel_rfl
@[simp] theorem einfo_3 : Abs.einfo Try.prog 3 = some (1, 8, [AV.c (Cell.sc (Value.int IntKind.i64 (0)))]) := by kernel_rfl
@[simp] theorem einfo_5 : Abs.einfo Try.prog 5 = some (1, 1, [AV.c (Cell.sc (Value.int IntKind.u8 (0)))]) := by kernel_rfl
@[simp] theorem einfo_9 : Abs.einfo Try.prog 9 = some (1, 16, [AV.c (Cell.sc (Value.string ⟨#[]⟩))]) := by kernel_rfl
@[simp] theorem einfo_39 : Abs.einfo Try.prog 39 = some (4, 40, [AV.c (Cell.sc (Value.int IntKind.i64 (0))), AV.c (Cell.sc (Value.int IntKind.i64 (0))), AV.c (Cell.sc (Value.string ⟨#[]⟩)), AV.c (Cell.sc (Value.int IntKind.i64 (0)))]) := by kernel_rfl
@[simp] theorem einfo_70 : Abs.einfo Try.prog 70 = some (9, 96, [AV.c (Cell.sc (Value.int IntKind.i64 (0))), AV.c (Cell.sc (Value.int IntKind.i64 (0))), AV.c (Cell.sc (Value.string ⟨#[]⟩)), AV.c (Cell.sc (Value.bool false)), AV.c (Cell.sc (Value.int IntKind.i64 (0))), AV.c (Cell.sc (Value.int IntKind.i64 (0))), AV.c (Cell.sc (Value.int IntKind.i64 (0))), AV.nils, AV.c (Cell.sc (Value.int IntKind.i64 (0)))]) := by kernel_rfl
@[simp] theorem einfo_105 : Abs.einfo Try.prog 105 = some (2, 16, [AV.c (Cell.sc (Value.int IntKind.i64 (0))), AV.c (Cell.sc (Value.int IntKind.i64 (0)))]) := by kernel_rfl
@[simp] theorem einfo_142 : Abs.einfo Try.prog 142 = some (5, 56, [AV.c (Cell.sc (Value.int IntKind.i64 (0))), AV.c (Cell.sc (Value.string ⟨#[]⟩)), AV.c (Cell.sc (Value.string ⟨#[]⟩)), AV.c (Cell.sc (Value.int IntKind.i64 (0))), AV.c (Cell.sc (Value.int IntKind.i64 (0)))]) := by kernel_rfl
@[simp] theorem elOk_9 : Abs.elOk Try.prog 9 = true := by kernel_rfl
@[simp] theorem elOk_22 : Abs.elOk Try.prog 22 = true := by kernel_rfl
@[simp] theorem elOk_26 : Abs.elOk Try.prog 26 = true := by kernel_rfl
@[simp] theorem elOk_42 : Abs.elOk Try.prog 42 = true := by kernel_rfl
@[simp] theorem elOk_45 : Abs.elOk Try.prog 45 = true := by kernel_rfl
@[simp] theorem elOk_53 : Abs.elOk Try.prog 53 = true := by kernel_rfl
@[simp] theorem elOk_58 : Abs.elOk Try.prog 58 = true := by kernel_rfl
@[simp] theorem elOk_68 : Abs.elOk Try.prog 68 = true := by kernel_rfl
@[simp] theorem elOk_72 : Abs.elOk Try.prog 72 = true := by kernel_rfl
@[simp] theorem elOk_116 : Abs.elOk Try.prog 116 = true := by kernel_rfl
@[simp] theorem elOk_131 : Abs.elOk Try.prog 131 = true := by kernel_rfl
@[simp] theorem elemOf_3 : Abs.elemOf Try.prog 3 = none := by kernel_rfl
@[simp] theorem elemOf_9 : Abs.elemOf Try.prog 9 = none := by kernel_rfl
@[simp] theorem elemOf_22 : Abs.elemOf Try.prog 22 = some 36 := by kernel_rfl
@[simp] theorem elemOf_26 : Abs.elemOf Try.prog 26 = some 39 := by kernel_rfl
@[simp] theorem elemOf_42 : Abs.elemOf Try.prog 42 = some 5 := by kernel_rfl
@[simp] theorem elemOf_45 : Abs.elemOf Try.prog 45 = some 3 := by kernel_rfl
@[simp] theorem elemOf_53 : Abs.elemOf Try.prog 53 = some 118 := by kernel_rfl
@[simp] theorem elemOf_58 : Abs.elemOf Try.prog 58 = some 70 := by kernel_rfl
@[simp] theorem elemOf_68 : Abs.elemOf Try.prog 68 = some 105 := by kernel_rfl
@[simp] theorem elemOf_72 : Abs.elemOf Try.prog 72 = some 9 := by kernel_rfl
@[simp] theorem elemOf_116 : Abs.elemOf Try.prog 116 = some 167 := by kernel_rfl
@[simp] theorem elemOf_131 : Abs.elemOf Try.prog 131 = some 142 := by kernel_rfl
@[simp] theorem fieldsOf_28 : Abs.fieldsOf Try.prog 28 = some [(0, 1), (1, 1), (2, 1)] := by kernel_rfl
@[simp] theorem fieldsOf_39 : Abs.fieldsOf Try.prog 39 = some [(0, 1), (1, 1), (2, 1), (3, 1)] := by kernel_rfl
@[simp] theorem fieldsOf_60 : Abs.fieldsOf Try.prog 60 = some [(0, 1), (1, 1)] := by kernel_rfl
@[simp] theorem fieldsOf_70 : Abs.fieldsOf Try.prog 70 = some [(0, 1), (1, 1), (2, 1), (3, 1), (4, 1), (5, 1), (6, 1), (7, 1), (8, 1)] := by kernel_rfl
@[simp] theorem fieldsOf_105 : Abs.fieldsOf Try.prog 105 = some [(0, 1), (1, 1)] := by kernel_rfl
@[simp] theorem fieldsOf_112 : Abs.fieldsOf Try.prog 112 = some [(0, 1), (1, 1), (2, 1)] := by kernel_rfl
@[simp] theorem fieldsOf_142 : Abs.fieldsOf Try.prog 142 = some [(0, 1), (1, 1), (2, 1), (3, 1), (4, 1)] := by kernel_rfl
@[simp] theorem fldOf_24_0 : Abs.fldOf Try.prog 24 0 = some (0, false, 1) := by kernel_rfl
@[simp] theorem fldOf_24_1 : Abs.fldOf Try.prog 24 1 = some (1, false, 1) := by kernel_rfl
@[simp] theorem fldOf_24_2 : Abs.fldOf Try.prog 24 2 = some (2, false, 1) := by kernel_rfl
@[simp] theorem fldOf_28_0 : Abs.fldOf Try.prog 28 0 = some (0, false, 1) := by kernel_rfl
@[simp] theorem fldOf_28_1 : Abs.fldOf Try.prog 28 1 = some (1, false, 1) := by kernel_rfl
@[simp] theorem fldOf_28_2 : Abs.fldOf Try.prog 28 2 = some (2, false, 1) := by kernel_rfl
@[simp] theorem fldOf_36_0 : Abs.fldOf Try.prog 36 0 = some (0, false, 1) := by kernel_rfl
@[simp] theorem fldOf_36_1 : Abs.fldOf Try.prog 36 1 = some (1, false, 1) := by kernel_rfl
@[simp] theorem fldOf_36_2 : Abs.fldOf Try.prog 36 2 = some (2, false, 1) := by kernel_rfl
@[simp] theorem fldOf_36_3 : Abs.fldOf Try.prog 36 3 = some (3, false, 1) := by kernel_rfl
@[simp] theorem fldOf_39_0 : Abs.fldOf Try.prog 39 0 = some (0, false, 1) := by kernel_rfl
@[simp] theorem fldOf_39_1 : Abs.fldOf Try.prog 39 1 = some (1, false, 1) := by kernel_rfl
@[simp] theorem fldOf_39_2 : Abs.fldOf Try.prog 39 2 = some (2, false, 1) := by kernel_rfl
@[simp] theorem fldOf_39_3 : Abs.fldOf Try.prog 39 3 = some (3, false, 1) := by kernel_rfl
@[simp] theorem fldOf_55_0 : Abs.fldOf Try.prog 55 0 = some (0, false, 1) := by kernel_rfl
@[simp] theorem fldOf_55_1 : Abs.fldOf Try.prog 55 1 = some (1, false, 1) := by kernel_rfl
@[simp] theorem fldOf_60_0 : Abs.fldOf Try.prog 60 0 = some (0, false, 1) := by kernel_rfl
@[simp] theorem fldOf_60_1 : Abs.fldOf Try.prog 60 1 = some (1, false, 1) := by kernel_rfl
@[simp] theorem fldOf_70_0 : Abs.fldOf Try.prog 70 0 = some (0, false, 1) := by kernel_rfl
@[simp] theorem fldOf_70_1 : Abs.fldOf Try.prog 70 1 = some (1, false, 1) := by kernel_rfl
@[simp] theorem fldOf_70_2 : Abs.fldOf Try.prog 70 2 = some (2, false, 1) := by kernel_rfl
@[simp] theorem fldOf_70_3 : Abs.fldOf Try.prog 70 3 = some (3, false, 1) := by kernel_rfl
@[simp] theorem fldOf_70_4 : Abs.fldOf Try.prog 70 4 = some (4, false, 1) := by kernel_rfl
@[simp] theorem fldOf_70_5 : Abs.fldOf Try.prog 70 5 = some (5, false, 1) := by kernel_rfl
@[simp] theorem fldOf_70_6 : Abs.fldOf Try.prog 70 6 = some (6, false, 1) := by kernel_rfl
@[simp] theorem fldOf_70_7 : Abs.fldOf Try.prog 70 7 = some (7, false, 1) := by kernel_rfl
@[simp] theorem fldOf_70_8 : Abs.fldOf Try.prog 70 8 = some (8, false, 1) := by kernel_rfl
@[simp] theorem fldOf_105_0 : Abs.fldOf Try.prog 105 0 = some (0, false, 1) := by kernel_rfl
@[simp] theorem fldOf_105_1 : Abs.fldOf Try.prog 105 1 = some (1, false, 1) := by kernel_rfl
@[simp] theorem fldOf_112_0 : Abs.fldOf Try.prog 112 0 = some (0, false, 1) := by kernel_rfl
@[simp] theorem fldOf_112_1 : Abs.fldOf Try.prog 112 1 = some (1, false, 1) := by kernel_rfl
@[simp] theorem fldOf_112_2 : Abs.fldOf Try.prog 112 2 = some (2, false, 1) := by kernel_rfl
@[simp] theorem fldOf_118_0 : Abs.fldOf Try.prog 118 0 = some (0, false, 1) := by kernel_rfl
@[simp] theorem fldOf_118_1 : Abs.fldOf Try.prog 118 1 = some (1, false, 1) := by kernel_rfl
@[simp] theorem fldOf_118_2 : Abs.fldOf Try.prog 118 2 = some (2, false, 1) := by kernel_rfl
@[simp] theorem fldOf_118_3 : Abs.fldOf Try.prog 118 3 = some (3, false, 1) := by kernel_rfl
@[simp] theorem fldOf_118_4 : Abs.fldOf Try.prog 118 4 = some (4, false, 1) := by kernel_rfl
@[simp] theorem fldOf_118_5 : Abs.fldOf Try.prog 118 5 = some (5, false, 1) := by kernel_rfl
@[simp] theorem fldOf_118_6 : Abs.fldOf Try.prog 118 6 = some (6, false, 1) := by kernel_rfl
@[simp] theorem fldOf_118_7 : Abs.fldOf Try.prog 118 7 = some (7, false, 1) := by kernel_rfl
@[simp] theorem fldOf_118_8 : Abs.fldOf Try.prog 118 8 = some (8, false, 1) := by kernel_rfl
@[simp] theorem fldOf_142_0 : Abs.fldOf Try.prog 142 0 = some (0, false, 1) := by kernel_rfl
@[simp] theorem fldOf_142_1 : Abs.fldOf Try.prog 142 1 = some (1, false, 1) := by kernel_rfl
@[simp] theorem fldOf_142_2 : Abs.fldOf Try.prog 142 2 = some (2, false, 1) := by kernel_rfl
@[simp] theorem fldOf_142_3 : Abs.fldOf Try.prog 142 3 = some (3, false, 1) := by kernel_rfl
@[simp] theorem fldOf_142_4 : Abs.fldOf Try.prog 142 4 = some (4, false, 1) := by kernel_rfl
@[simp] theorem fldOf_167_0 : Abs.fldOf Try.prog 167 0 = some (0, false, 1) := by kernel_rfl
@[simp] theorem fldOf_167_1 : Abs.fldOf Try.prog 167 1 = some (1, false, 1) := by kernel_rfl
@[simp] theorem isBool_3 : Abs.isBool Try.prog 3 = false := by kernel_rfl
@[simp] theorem isBool_4 : Abs.isBool Try.prog 4 = true := by kernel_rfl
@[simp] theorem isBool_5 : Abs.isBool Try.prog 5 = false := by kernel_rfl
@[simp] theorem isBool_9 : Abs.isBool Try.prog 9 = false := by kernel_rfl
@[simp] theorem isBool_94 : Abs.isBool Try.prog 94 = false := by kernel_rfl
@[simp] theorem isBool_147 : Abs.isBool Try.prog 147 = false := by kernel_rfl
@[simp] theorem lenK_9 : Abs.lenK Try.prog 9 = some true := by kernel_rfl
@[simp] theorem lenK_22 : Abs.lenK Try.prog 22 = some false := by kernel_rfl
@[simp] theorem lenK_26 : Abs.lenK Try.prog 26 = some false := by kernel_rfl
@[simp] theorem lenK_42 : Abs.lenK Try.prog 42 = some false := by kernel_rfl
@[simp] theorem lenK_45 : Abs.lenK Try.prog 45 = some false := by kernel_rfl
@[simp] theorem lenK_53 : Abs.lenK Try.prog 53 = some false := by kernel_rfl
@[simp] theorem lenK_58 : Abs.lenK Try.prog 58 = some false := by kernel_rfl
@[simp] theorem lenK_68 : Abs.lenK Try.prog 68 = some false := by kernel_rfl
@[simp] theorem lenK_72 : Abs.lenK Try.prog 72 = some false := by kernel_rfl
@[simp] theorem lenK_116 : Abs.lenK Try.prog 116 = some false := by kernel_rfl
@[simp] theorem lenK_131 : Abs.lenK Try.prog 131 = some false := by kernel_rfl
@[simp] theorem tinfo_3 : Abs.tinfo Try.prog 3 = some (false, 1) := by kernel_rfl
@[simp] theorem tinfo_4 : Abs.tinfo Try.prog 4 = some (false, 1) := by kernel_rfl
@[simp] theorem tinfo_5 : Abs.tinfo Try.prog 5 = some (false, 1) := by kernel_rfl
@[simp] theorem tinfo_9 : Abs.tinfo Try.prog 9 = some (false, 1) := by kernel_rfl
@[simp] theorem tinfo_22 : Abs.tinfo Try.prog 22 = some (false, 1) := by kernel_rfl
@[simp] theorem tinfo_24 : Abs.tinfo Try.prog 24 = some (true, 3) := by kernel_rfl
@[simp] theorem tinfo_26 : Abs.tinfo Try.prog 26 = some (false, 1) := by kernel_rfl
@[simp] theorem tinfo_28 : Abs.tinfo Try.prog 28 = some (true, 3) := by kernel_rfl
@[simp] theorem tinfo_36 : Abs.tinfo Try.prog 36 = some (true, 4) := by kernel_rfl
@[simp] theorem tinfo_39 : Abs.tinfo Try.prog 39 = some (true, 4) := by kernel_rfl
@[simp] theorem tinfo_42 : Abs.tinfo Try.prog 42 = some (false, 1) := by kernel_rfl
@[simp] theorem tinfo_53 : Abs.tinfo Try.prog 53 = some (false, 1) := by kernel_rfl
@[simp] theorem tinfo_55 : Abs.tinfo Try.prog 55 = some (true, 2) := by kernel_rfl
@[simp] theorem tinfo_58 : Abs.tinfo Try.prog 58 = some (false, 1) := by kernel_rfl
@[simp] theorem tinfo_60 : Abs.tinfo Try.prog 60 = some (true, 2) := by kernel_rfl
@[simp] theorem tinfo_68 : Abs.tinfo Try.prog 68 = some (false, 1) := by kernel_rfl
@[simp] theorem tinfo_70 : Abs.tinfo Try.prog 70 = some (true, 9) := by kernel_rfl
@[simp] theorem tinfo_105 : Abs.tinfo Try.prog 105 = some (true, 2) := by kernel_rfl
@[simp] theorem tinfo_116 : Abs.tinfo Try.prog 116 = some (false, 1) := by kernel_rfl
@[simp] theorem tinfo_118 : Abs.tinfo Try.prog 118 = some (true, 9) := by kernel_rfl
@[simp] theorem tinfo_142 : Abs.tinfo Try.prog 142 = some (true, 5) := by kernel_rfl
@[simp] theorem tinfo_167 : Abs.tinfo Try.prog 167 = some (true, 2) := by kernel_rfl
@[simp] theorem tinfo_176 : Abs.tinfo Try.prog 176 = some (false, 1) := by kernel_rfl
@[simp] theorem zeroAV_3 : Abs.zeroAV Try.prog 3 = some (AV.c (Cell.sc (Value.int IntKind.i64 (0)))) := by kernel_rfl
@[simp] theorem zeroAV_5 : Abs.zeroAV Try.prog 5 = some (AV.c (Cell.sc (Value.int IntKind.u8 (0)))) := by kernel_rfl
@[simp] theorem zeroAV_9 : Abs.zeroAV Try.prog 9 = some (AV.c (Cell.sc (Value.string ⟨#[]⟩))) := by kernel_rfl
@[simp] theorem zeroAV_28 : Abs.zeroAV Try.prog 28 = some (AV.agg [AV.c (Cell.sc (Value.int IntKind.i64 (0))), AV.c (Cell.sc (Value.bool false)), AV.nils]) := by kernel_rfl
@[simp] theorem zeroAV_39 : Abs.zeroAV Try.prog 39 = some (AV.agg [AV.c (Cell.sc (Value.int IntKind.i64 (0))), AV.c (Cell.sc (Value.int IntKind.i64 (0))), AV.c (Cell.sc (Value.string ⟨#[]⟩)), AV.c (Cell.sc (Value.int IntKind.i64 (0)))]) := by kernel_rfl
@[simp] theorem zeroAV_60 : Abs.zeroAV Try.prog 60 = some (AV.agg [AV.nils, AV.c (Cell.sc (Value.int IntKind.i64 (0)))]) := by kernel_rfl
@[simp] theorem zeroAV_70 : Abs.zeroAV Try.prog 70 = some (AV.agg [AV.c (Cell.sc (Value.int IntKind.i64 (0))), AV.c (Cell.sc (Value.int IntKind.i64 (0))), AV.c (Cell.sc (Value.string ⟨#[]⟩)), AV.c (Cell.sc (Value.bool false)), AV.c (Cell.sc (Value.int IntKind.i64 (0))), AV.c (Cell.sc (Value.int IntKind.i64 (0))), AV.c (Cell.sc (Value.int IntKind.i64 (0))), AV.nils, AV.c (Cell.sc (Value.int IntKind.i64 (0)))]) := by kernel_rfl
@[simp] theorem zeroAV_105 : Abs.zeroAV Try.prog 105 = some (AV.agg [AV.c (Cell.sc (Value.int IntKind.i64 (0))), AV.c (Cell.sc (Value.int IntKind.i64 (0)))]) := by kernel_rfl
@[simp] theorem zeroAV_112 : Abs.zeroAV Try.prog 112 = some (AV.agg [AV.nils, AV.c (Cell.sc (Value.int IntKind.i64 (0))), AV.c (Cell.sc (Value.int IntKind.i64 (0)))]) := by kernel_rfl
@[simp] theorem zeroAV_142 : Abs.zeroAV Try.prog 142 = some (AV.agg [AV.c (Cell.sc (Value.int IntKind.i64 (0))), AV.c (Cell.sc (Value.string ⟨#[]⟩)), AV.c (Cell.sc (Value.string ⟨#[]⟩)), AV.c (Cell.sc (Value.int IntKind.i64 (0))), AV.c (Cell.sc (Value.int IntKind.i64 (0)))]) := by kernel_rfl
@[simp] theorem zeroAV_176 : Abs.zeroAV Try.prog 176 = some (AV.c (Cell.sc (Value.int IntKind.u64 (0)))) := by kernel_rfl
theorem hmo : Try.prog.follows .mixedOrders = true := by kernel_rfl
end Go.Proofs.Ytbhbkaonlillhaa
