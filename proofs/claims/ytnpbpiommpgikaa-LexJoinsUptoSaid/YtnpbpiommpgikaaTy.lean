/- What is fixed about the types: sizes, parts, zeros. -/
import Derived.Test.YtnpbpiommpgikaaVcT
import Derived.Test.YtnpbpiommpgikaaRows
namespace Go.Proofs.Ytnpbpiommpgikaa.Vc
open Go Go.RowKit
theorem mixed : Try.prog.follows .mixedOrders = true := by kernel_rfl
theorem und9 : Try.prog.underlying 9 = some .string := by kernel_rfl
theorem ar63 : arB Try.prog 63 62 256 1 = true := by kernel_rfl
theorem one62 : oneB Try.prog 62 = true := by kernel_rfl
theorem agg63 : aggB Try.prog 63 256 = true := by kernel_rfl
theorem siz63 : (Try.prog.info? 63).any (·.size == 256) = true := by kernel_rfl
theorem und5 : Try.prog.underlying 5 = some (.int .u8) := by kernel_rfl
theorem undS71 : Try.prog.underlying 71 = some (.slice 5) := by kernel_rfl
theorem zero63 : ((Try.prog.info? 63).bind (·.zero)).map (·.cells.toList) = some (List.replicate 256 (.int .i64 0)) := by kernel_rfl
theorem el71 : elP Try.prog 71 5 1 1 (.int .u8 0) := elP_of undS71 (by kernel_rfl) rfl (by decide)
theorem sl71 : slB Try.prog 71 5 1 = true := by kernel_rfl
theorem one5 : oneB Try.prog 5 = true := by kernel_rfl
theorem zero30 : ((Try.prog.info? 30).bind (·.zero)).map (·.cells.toList) = some [(.int .i64 0), (.string .empty), (.int .i64 0)] := by kernel_rfl
theorem pls30_0_2 : plsB Try.prog 30 [0, 2] [(0, 1), (2, 1)] = true := by kernel_rfl
theorem siz30 : (Try.prog.info? 30).any (·.size == 3) = true := by kernel_rfl
theorem agg30 : aggB Try.prog 30 3 = true := by kernel_rfl
theorem pls30_0_1_2 : plsB Try.prog 30 [0, 1, 2] [(0, 1), (1, 1), (2, 1)] = true := by kernel_rfl
theorem pls30_ : plsB Try.prog 30 [] [] = true := by kernel_rfl
theorem fld30_0 : fldB Try.prog 30 0 0 1 = true := by kernel_rfl
theorem one28 : oneB Try.prog 28 = true := by kernel_rfl
theorem undS25 : Try.prog.underlying 25 = some (.slice 30) := by kernel_rfl
theorem el25 : elP Try.prog 25 30 3 32 (.agg #[(.int .i64 0), (.string .empty), (.int .i64 0)]) := elP_of undS25 (by kernel_rfl) rfl (by decide)
theorem sl25 : slB Try.prog 25 30 3 = true := by kernel_rfl
theorem fld30_1 : fldB Try.prog 30 1 1 1 = true := by kernel_rfl
theorem one9 : oneB Try.prog 9 = true := by kernel_rfl
theorem fld30_2 : fldB Try.prog 30 2 2 1 = true := by kernel_rfl
theorem one3 : oneB Try.prog 3 = true := by kernel_rfl
theorem zero40 : ((Try.prog.info? 40).bind (·.zero)).map (·.cells.toList) = some [(.int .i64 0), (.string .empty), (.int .i64 0)] := by kernel_rfl
theorem pls40_0_1_2 : plsB Try.prog 40 [0, 1, 2] [(0, 1), (1, 1), (2, 1)] = true := by kernel_rfl
theorem siz40 : (Try.prog.info? 40).any (·.size == 3) = true := by kernel_rfl
theorem agg40 : aggB Try.prog 40 3 = true := by kernel_rfl
theorem pls40_ : plsB Try.prog 40 [] [] = true := by kernel_rfl
theorem fld40_0 : fldB Try.prog 40 0 0 1 = true := by kernel_rfl
theorem fld40_1 : fldB Try.prog 40 1 1 1 = true := by kernel_rfl
theorem fld40_2 : fldB Try.prog 40 2 2 1 = true := by kernel_rfl
theorem sl44 : slB Try.prog 44 40 3 = true := by kernel_rfl
theorem undS44 : Try.prog.underlying 44 = some (.slice 40) := by kernel_rfl
theorem el44 : elP Try.prog 44 40 3 32 (.agg #[(.int .i64 0), (.string .empty), (.int .i64 0)]) := elP_of undS44 (by kernel_rfl) rfl (by decide)
theorem undS33 : Try.prog.underlying 33 = some (.slice 9) := by kernel_rfl
theorem el33 : elP Try.prog 33 9 1 16 (.string .empty) := elP_of undS33 (by kernel_rfl) rfl (by decide)
theorem sl33 : slB Try.prog 33 9 1 = true := by kernel_rfl
theorem fld73_0 : fldB Try.prog 73 0 0 1 = true := by kernel_rfl
theorem one70 : oneB Try.prog 70 = true := by kernel_rfl
theorem undP70 : Try.prog.underlying 70 = some (.pointer 73) := by kernel_rfl
theorem undU85 : Try.prog.underlying 85 = some .unsafePointer := by kernel_rfl
theorem lies73 : ∀ c, liesAt Try.prog Try.prog.depth 73 (c + 1) 0 73 1 = true := fun c => by kernel_rfl
theorem cells73 : Try.prog.cellsOf 73 = 2 := by kernel_rfl
theorem siz70 : (Try.prog.info? 70).any (·.size == 1) = true := by kernel_rfl
theorem fld73_1 : fldB Try.prog 73 1 1 1 = true := by kernel_rfl
theorem one71 : oneB Try.prog 71 = true := by kernel_rfl
theorem siz71 : (Try.prog.info? 71).any (·.size == 1) = true := by kernel_rfl
theorem undP84 : Try.prog.underlying 84 = some (.pointer 5) := by kernel_rfl
theorem zero73 : ((Try.prog.info? 73).bind (·.zero)).map (·.cells.toList) = some [(.pointer none), (.slice none 0 0)] := by kernel_rfl
theorem zero57 : ((Try.prog.info? 57).bind (·.zero)).map (·.cells.toList) = some [(.int .i64 0), (.int .i64 0), (.int .i64 0), (.int .i64 0)] := by kernel_rfl
theorem agg57 : aggB Try.prog 57 4 = true := by kernel_rfl
theorem siz57 : (Try.prog.info? 57).any (·.size == 4) = true := by kernel_rfl
theorem fld57_0 : fldB Try.prog 57 0 0 1 = true := by kernel_rfl
theorem siz3 : (Try.prog.info? 3).any (·.size == 1) = true := by kernel_rfl
theorem fld57_1 : fldB Try.prog 57 1 1 1 = true := by kernel_rfl
theorem fld57_2 : fldB Try.prog 57 2 2 1 = true := by kernel_rfl
theorem fld57_3 : fldB Try.prog 57 3 3 1 = true := by kernel_rfl
theorem pls57_ : plsB Try.prog 57 [] [] = true := by kernel_rfl
theorem zero82 : ((Try.prog.info? 82).bind (·.zero)).map (·.cells.toList) = some [(.int .i64 0), (.int .i64 0), (.int .i64 0)] := by kernel_rfl
theorem ar82 : arB Try.prog 82 3 3 1 = true := by kernel_rfl
theorem pls57_0_1_2_3 : plsB Try.prog 57 [0, 1, 2, 3] [(0, 1), (1, 1), (2, 1), (3, 1)] = true := by kernel_rfl
theorem undF57 : Try.prog.underlying 57 = some (.struct (Try.prog.fieldsOf 57)) := by kernel_rfl
theorem stood57 : Try.prog.stoodInHeld 57 = false := by kernel_rfl
theorem eqg57 : Try.prog.eqGuardType Try.prog.depth 57 = false := by kernel_rfl
theorem flat57 : flatB Try.prog 57 4 = true := by kernel_rfl
theorem pls30_1 : plsB Try.prog 30 [1] [(1, 1)] = true := by kernel_rfl
end Go.Proofs.Ytnpbpiommpgikaa.Vc
