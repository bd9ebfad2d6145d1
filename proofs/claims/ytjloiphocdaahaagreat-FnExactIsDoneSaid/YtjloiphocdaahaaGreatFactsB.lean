/- Facts of the program's tables that the walks lean on. -/
import Derived.Test.YtjloiphocdaahaaGreatFacts
import Derived.KernelRfl
namespace Go.Proofs.YtjloiphocdaahaaGreat.Wk
open Go Go.RowKit Sl
theorem ag27 : aggB Tryz.prog 27 = true := by kernel_rfl
theorem ag31 : aggB Tryz.prog 31 = true := by kernel_rfl
theorem ag41 : aggB Tryz.prog 41 = true := by kernel_rfl
theorem bl4 : Tryz.prog.underlying 4 = some .bool := by kernel_rfl
theorem en4 : enterB Tryz.prog 4 = true := by kernel_rfl
theorem en5 : enterB Tryz.prog 5 = true := by kernel_rfl
theorem en6 : enterB Tryz.prog 6 = true := by kernel_rfl
theorem en7 : enterB Tryz.prog 7 = true := by kernel_rfl
theorem en8 : enterB Tryz.prog 8 = true := by kernel_rfl
theorem en9 : enterB Tryz.prog 9 = true := by kernel_rfl
theorem en10 : enterB Tryz.prog 10 = true := by kernel_rfl
theorem en12 : enterB Tryz.prog 12 = true := by kernel_rfl
theorem en13 : enterB Tryz.prog 13 = true := by kernel_rfl
theorem en14 : enterB Tryz.prog 14 = true := by kernel_rfl
theorem en15 : enterB Tryz.prog 15 = true := by kernel_rfl
theorem en16 : enterB Tryz.prog 16 = true := by kernel_rfl
theorem en18 : enterB Tryz.prog 18 = true := by kernel_rfl
theorem en19 : enterB Tryz.prog 19 = true := by kernel_rfl
theorem en20 : enterB Tryz.prog 20 = true := by kernel_rfl
theorem en21 : enterB Tryz.prog 21 = true := by kernel_rfl
theorem en22 : enterB Tryz.prog 22 = true := by kernel_rfl
theorem en24 : enterB Tryz.prog 24 = true := by kernel_rfl
theorem en26 : enterB Tryz.prog 26 = true := by kernel_rfl
theorem en29 : enterB Tryz.prog 29 = true := by kernel_rfl
theorem en30 : enterB Tryz.prog 30 = true := by kernel_rfl
theorem en33 : enterB Tryz.prog 33 = true := by kernel_rfl
theorem en35 : enterB Tryz.prog 35 = true := by kernel_rfl
theorem en36 : enterB Tryz.prog 36 = true := by kernel_rfl
theorem en38 : enterB Tryz.prog 38 = true := by kernel_rfl
theorem en45 : enterB Tryz.prog 45 = true := by kernel_rfl
theorem en69 : enterB Tryz.prog 69 = true := by kernel_rfl
theorem en71 : enterB Tryz.prog 71 = true := by kernel_rfl
theorem en72 : enterB Tryz.prog 72 = true := by kernel_rfl
theorem en92 : enterB Tryz.prog 92 = true := by kernel_rfl
theorem fo31_0 : offB Tryz.prog 31 0 = some 0 := by kernel_rfl
theorem fo31_1 : offB Tryz.prog 31 1 = some 13 := by kernel_rfl
theorem fo31_2 : offB Tryz.prog 31 2 = some 14 := by kernel_rfl
theorem fo31_3 : offB Tryz.prog 31 3 = some 15 := by kernel_rfl
theorem fo31_4 : offB Tryz.prog 31 4 = some 16 := by kernel_rfl
theorem fo41_0 : offB Tryz.prog 41 0 = some 0 := by kernel_rfl
theorem fo41_1 : offB Tryz.prog 41 1 = some 13 := by kernel_rfl
theorem fo41_2 : offB Tryz.prog 41 2 = some 14 := by kernel_rfl
theorem fo41_3 : offB Tryz.prog 41 3 = some 15 := by kernel_rfl
theorem fo41_4 : offB Tryz.prog 41 4 = some 16 := by kernel_rfl
theorem mk38 : mkB Tryz.prog 38 = some ([.slice none 0 0], 1, 24) := by kernel_rfl
theorem mk49 : mkB Tryz.prog 49 = some ([.int .i64 0, .int .i64 0, .int .i64 0], 3, 24) := by kernel_rfl
theorem sc28 : scalB Tryz.prog 28 = true := by kernel_rfl
theorem sc29 : scalB Tryz.prog 29 = true := by kernel_rfl
theorem sc38 : scalB Tryz.prog 38 = true := by kernel_rfl
theorem sc39 : scalB Tryz.prog 39 = true := by kernel_rfl
theorem sc49 : scalB Tryz.prog 49 = true := by kernel_rfl
theorem sc61 : scalB Tryz.prog 61 = true := by kernel_rfl
theorem sl28 : slB Tryz.prog 28 = some (1, 24) := by kernel_rfl
theorem sl38 : slB Tryz.prog 38 = some (1, 24) := by kernel_rfl
theorem sl49 : slB Tryz.prog 49 = some (3, 24) := by kernel_rfl
theorem sl61 : slB Tryz.prog 61 = some (3, 24) := by kernel_rfl
theorem sz27 : szB Tryz.prog 27 = some 13 := by kernel_rfl
theorem sz31 : szB Tryz.prog 31 = some 17 := by kernel_rfl
theorem sz38 : szB Tryz.prog 38 = some 1 := by kernel_rfl
theorem sz39 : szB Tryz.prog 39 = some 1 := by kernel_rfl
theorem sz41 : szB Tryz.prog 41 = some 17 := by kernel_rfl
theorem sz49 : szB Tryz.prog 49 = some 1 := by kernel_rfl
theorem ul28 : Tryz.prog.underlying 28 = some (.slice (Tryz.prog.elem 28)) := by kernel_rfl
theorem ul38 : Tryz.prog.underlying 38 = some (.slice (Tryz.prog.elem 38)) := by kernel_rfl
theorem ul49 : Tryz.prog.underlying 49 = some (.slice (Tryz.prog.elem 49)) := by kernel_rfl
theorem ul61 : Tryz.prog.underlying 61 = some (.slice (Tryz.prog.elem 61)) := by kernel_rfl
theorem zr41 : zeroOf Tryz.prog 41 = some [.int .i64 0, .int .i64 0, .int .i64 0, .int .i64 0, .int .i64 0, .int .i64 0, .slice none 0 0, .slice none 0 0, .slice none 0 0, .int .i64 0, .int .i64 0, .int .i64 0, .int .i64 0, .slice none 0 0, .slice none 0 0, .slice none 0 0, .int .i64 0] := by kernel_rfl
end Go.Proofs.YtjloiphocdaahaaGreat.Wk
