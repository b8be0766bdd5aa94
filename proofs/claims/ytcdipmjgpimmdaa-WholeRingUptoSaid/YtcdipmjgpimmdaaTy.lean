/- What is fixed about the types: sizes, parts, zeros. -/
import Derived.Test.YtcdipmjgpimmdaaVcZ
import Derived.Test.YtcdipmjgpimmdaaRows
namespace Go.Proofs.Ytcdipmjgpimmdaa.Vc
open Go Go.RowKit
theorem mixed : Try.prog.follows .mixedOrders = true := by kernel_rfl
theorem sl28 : slB Try.prog 28 82 1 = true := by kernel_rfl
theorem one82 : oneB Try.prog 82 = true := by kernel_rfl
theorem undS28 : Try.prog.underlying 28 = some (.slice 82) := by kernel_rfl
theorem el28 : elP Try.prog 28 82 1 8 (.int .u64 0) := elP_of undS28 (by kernel_rfl) rfl (by decide)
theorem und9 : Try.prog.underlying 9 = some .string := by kernel_rfl
theorem und82 : Try.prog.underlying 82 = some (.int .u64) := by kernel_rfl
theorem und5 : Try.prog.underlying 5 = some (.int .u8) := by kernel_rfl
theorem und3 : Try.prog.underlying 3 = some (.int .i64) := by kernel_rfl
theorem sl33 : slB Try.prog 33 82 1 = true := by kernel_rfl
theorem zero35 : ((Try.prog.info? 35).bind (·.zero)).map (·.cells.toList) = some [(.bool false), (.slice none 0 0)] := by kernel_rfl
theorem pls35_0_1 : plsB Try.prog 35 [0, 1] [(0, 1), (1, 1)] = true := by kernel_rfl
theorem siz35 : (Try.prog.info? 35).any (·.size == 2) = true := by kernel_rfl
theorem agg35 : aggB Try.prog 35 2 = true := by kernel_rfl
theorem sl25 : slB Try.prog 25 82 1 = true := by kernel_rfl
theorem undS33 : Try.prog.underlying 33 = some (.slice 82) := by kernel_rfl
theorem el33 : elP Try.prog 33 82 1 8 (.int .u64 0) := elP_of undS33 (by kernel_rfl) rfl (by decide)
theorem undS25 : Try.prog.underlying 25 = some (.slice 82) := by kernel_rfl
theorem el25 : elP Try.prog 25 82 1 8 (.int .u64 0) := elP_of undS25 (by kernel_rfl) rfl (by decide)
theorem fld35_0 : fldB Try.prog 35 0 0 1 = true := by kernel_rfl
theorem one4 : oneB Try.prog 4 = true := by kernel_rfl
theorem und4 : Try.prog.underlying 4 = some .bool := by kernel_rfl
theorem fld35_1 : fldB Try.prog 35 1 1 1 = true := by kernel_rfl
theorem one33 : oneB Try.prog 33 = true := by kernel_rfl
theorem zero30 : ((Try.prog.info? 30).bind (·.zero)).map (·.cells.toList) = some [(.bool false), (.slice none 0 0)] := by kernel_rfl
theorem fld30_1 : fldB Try.prog 30 1 1 1 = true := by kernel_rfl
theorem one28 : oneB Try.prog 28 = true := by kernel_rfl
theorem fld30_0 : fldB Try.prog 30 0 0 1 = true := by kernel_rfl
theorem pls30_0_1 : plsB Try.prog 30 [0, 1] [(0, 1), (1, 1)] = true := by kernel_rfl
theorem siz30 : (Try.prog.info? 30).any (·.size == 2) = true := by kernel_rfl
theorem agg30 : aggB Try.prog 30 2 = true := by kernel_rfl
theorem pls30_1 : plsB Try.prog 30 [1] [(1, 1)] = true := by kernel_rfl
theorem zero102 : ((Try.prog.info? 102).bind (·.zero)).map (·.cells.toList) = some [.nilFunc, .nilFunc, .nilFunc, .nilFunc, .nilFunc] := by kernel_rfl
theorem siz102 : (Try.prog.info? 102).any (·.size == 5) = true := by kernel_rfl
theorem agg102 : aggB Try.prog 102 5 = true := by kernel_rfl
theorem undA102 : Try.prog.underlying 102 = some (.array 5 101) := by kernel_rfl
theorem one101 : oneB Try.prog 101 = true := by kernel_rfl
theorem siz82m : (Try.prog.info? 82).map (·.size) = some 1 := by kernel_rfl
theorem pls30_ : plsB Try.prog 30 [] [] = true := by kernel_rfl
theorem sl83 : slB Try.prog 83 23 1 = true := by kernel_rfl
theorem one23 : oneB Try.prog 23 = true := by kernel_rfl
theorem fld27_0 : fldB Try.prog 27 0 0 1 = true := by kernel_rfl
theorem fld27_1 : fldB Try.prog 27 1 1 1 = true := by kernel_rfl
theorem one25 : oneB Try.prog 25 = true := by kernel_rfl
theorem undS83 : Try.prog.underlying 83 = some (.slice 23) := by kernel_rfl
theorem el83 : elP Try.prog 83 23 1 8 (.int .i64 0) := elP_of undS83 (by kernel_rfl) rfl (by decide)
theorem agg27 : aggB Try.prog 27 2 = true := by kernel_rfl
end Go.Proofs.Ytcdipmjgpimmdaa.Vc
