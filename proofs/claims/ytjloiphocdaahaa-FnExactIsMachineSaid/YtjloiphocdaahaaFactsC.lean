/- Facts of the program's tables that the walks lean on. -/
import Derived.Test.YtjloiphocdaahaaFactsB
import Derived.KernelRfl
namespace Go.Proofs.Ytjloiphocdaahaa.Wk
open Go Go.RowKit Sl
theorem ag31 : aggB Try.prog 31 = true := by kernel_rfl
theorem ag41 : aggB Try.prog 41 = true := by kernel_rfl
theorem eg34 : Try.prog.eqGuardType Try.prog.depth 34 = false := by kernel_rfl
theorem eg71 : Try.prog.eqGuardType Try.prog.depth 71 = false := by kernel_rfl
theorem eg73 : Try.prog.eqGuardType Try.prog.depth 73 = false := by kernel_rfl
theorem eg75 : Try.prog.eqGuardType Try.prog.depth 75 = false := by kernel_rfl
theorem eg143 : Try.prog.eqGuardType Try.prog.depth 143 = false := by kernel_rfl
theorem en12 : enterB Try.prog 12 = true := by kernel_rfl
theorem en13 : enterB Try.prog 13 = true := by kernel_rfl
theorem en14 : enterB Try.prog 14 = true := by kernel_rfl
theorem en15 : enterB Try.prog 15 = true := by kernel_rfl
theorem en16 : enterB Try.prog 16 = true := by kernel_rfl
theorem en17 : enterB Try.prog 17 = true := by kernel_rfl
theorem en20 : enterB Try.prog 20 = true := by kernel_rfl
theorem en22 : enterB Try.prog 22 = true := by kernel_rfl
theorem en23 : enterB Try.prog 23 = true := by kernel_rfl
theorem en48 : enterB Try.prog 48 = true := by kernel_rfl
theorem en49 : enterB Try.prog 49 = true := by kernel_rfl
theorem en50 : enterB Try.prog 50 = true := by kernel_rfl
theorem en52 : enterB Try.prog 52 = true := by kernel_rfl
theorem en53 : enterB Try.prog 53 = true := by kernel_rfl
theorem en54 : enterB Try.prog 54 = true := by kernel_rfl
theorem en55 : enterB Try.prog 55 = true := by kernel_rfl
theorem en56 : enterB Try.prog 56 = true := by kernel_rfl
theorem en57 : enterB Try.prog 57 = true := by kernel_rfl
theorem en58 : enterB Try.prog 58 = true := by kernel_rfl
theorem en59 : enterB Try.prog 59 = true := by kernel_rfl
theorem en63 : enterB Try.prog 63 = true := by kernel_rfl
theorem en67 : enterB Try.prog 67 = true := by kernel_rfl
theorem en68 : enterB Try.prog 68 = true := by kernel_rfl
theorem en69 : enterB Try.prog 69 = true := by kernel_rfl
theorem en70 : enterB Try.prog 70 = true := by kernel_rfl
theorem en71 : enterB Try.prog 71 = true := by kernel_rfl
theorem en72 : enterB Try.prog 72 = true := by kernel_rfl
theorem en96 : enterB Try.prog 96 = true := by kernel_rfl
theorem en98 : enterB Try.prog 98 = true := by kernel_rfl
theorem en99 : enterB Try.prog 99 = true := by kernel_rfl
theorem en112 : enterB Try.prog 112 = true := by kernel_rfl
theorem en139 : enterB Try.prog 139 = true := by kernel_rfl
theorem en141 : enterB Try.prog 141 = true := by kernel_rfl
theorem fl34 : flN Try.prog 10000 34 = some 6 := by kernel_rfl
theorem fl71 : flN Try.prog 10000 71 = some 3 := by kernel_rfl
theorem fl73 : flN Try.prog 10000 73 = some 2 := by kernel_rfl
theorem fl75 : flN Try.prog 10000 75 = some 8 := by kernel_rfl
theorem fl143 : flN Try.prog 10000 143 = some 4 := by kernel_rfl
theorem fo31_0 : offB Try.prog 31 0 = some 0 := by kernel_rfl
theorem fo31_1 : offB Try.prog 31 1 = some 13 := by kernel_rfl
theorem fo31_2 : offB Try.prog 31 2 = some 14 := by kernel_rfl
theorem fo31_3 : offB Try.prog 31 3 = some 15 := by kernel_rfl
theorem fo31_4 : offB Try.prog 31 4 = some 16 := by kernel_rfl
theorem fo41_0 : offB Try.prog 41 0 = some 0 := by kernel_rfl
theorem fo41_1 : offB Try.prog 41 1 = some 13 := by kernel_rfl
theorem fo41_2 : offB Try.prog 41 2 = some 14 := by kernel_rfl
theorem fo41_3 : offB Try.prog 41 3 = some 15 := by kernel_rfl
theorem fo41_4 : offB Try.prog 41 4 = some 16 := by kernel_rfl
theorem mk38 : mkB Try.prog 38 = some ([.slice none 0 0], 1, 24) := by kernel_rfl
theorem mk76 : mkB Try.prog 76 = some ([.int .i64 0, .int .i64 0, .int .i64 0], 3, 24) := by kernel_rfl
theorem sc28 : scalB Try.prog 28 = true := by kernel_rfl
theorem sc29 : scalB Try.prog 29 = true := by kernel_rfl
theorem sc38 : scalB Try.prog 38 = true := by kernel_rfl
theorem sc39 : scalB Try.prog 39 = true := by kernel_rfl
theorem sc76 : scalB Try.prog 76 = true := by kernel_rfl
theorem sc83 : scalB Try.prog 83 = true := by kernel_rfl
theorem sl28 : slB Try.prog 28 = some (1, 24) := by kernel_rfl
theorem sl38 : slB Try.prog 38 = some (1, 24) := by kernel_rfl
theorem sl76 : slB Try.prog 76 = some (3, 24) := by kernel_rfl
theorem sl83 : slB Try.prog 83 = some (3, 24) := by kernel_rfl
theorem sz31 : szB Try.prog 31 = some 17 := by kernel_rfl
theorem sz38 : szB Try.prog 38 = some 1 := by kernel_rfl
theorem sz39 : szB Try.prog 39 = some 1 := by kernel_rfl
theorem sz41 : szB Try.prog 41 = some 17 := by kernel_rfl
theorem sz76 : szB Try.prog 76 = some 1 := by kernel_rfl
theorem ul28 : Try.prog.underlying 28 = some (.slice (Try.prog.elem 28)) := by kernel_rfl
theorem ul38 : Try.prog.underlying 38 = some (.slice (Try.prog.elem 38)) := by kernel_rfl
theorem ul76 : Try.prog.underlying 76 = some (.slice (Try.prog.elem 76)) := by kernel_rfl
theorem ul83 : Try.prog.underlying 83 = some (.slice (Try.prog.elem 83)) := by kernel_rfl
theorem zr41 : zeroOf Try.prog 41 = some [.int .i64 0, .int .i64 0, .int .i64 0, .int .i64 0, .int .i64 0, .int .i64 0, .slice none 0 0, .slice none 0 0, .slice none 0 0, .int .i64 0, .int .i64 0, .int .i64 0, .int .i64 0, .slice none 0 0, .slice none 0 0, .slice none 0 0, .int .i64 0] := by kernel_rfl
end Go.Proofs.Ytjloiphocdaahaa.Wk
