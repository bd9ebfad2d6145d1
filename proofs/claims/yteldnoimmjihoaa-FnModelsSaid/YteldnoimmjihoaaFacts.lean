/- Facts of the program's tables that the walks lean on. -/
import Derived.Test.YteldnoimmjihoaaProg
import Derived.Test.YteldnoimmjihoaaRun
import Derived.KernelRfl
namespace Go.Proofs.Yteldnoimmjihoaa.Wk
open Go Go.RowKit Sl
theorem ag29 : aggB Try.prog 29 = true := by kernel_rfl
theorem ag31 : aggB Try.prog 31 = true := by kernel_rfl
theorem ag33 : aggB Try.prog 33 = true := by kernel_rfl
theorem ag35 : aggB Try.prog 35 = true := by kernel_rfl
theorem ag38 : aggB Try.prog 38 = true := by kernel_rfl
theorem ag41 : aggB Try.prog 41 = true := by kernel_rfl
theorem ag42 : aggB Try.prog 42 = true := by kernel_rfl
theorem ag44 : aggB Try.prog 44 = true := by kernel_rfl
theorem bd35 : Try.prog.built 35 [] = some [.slice none 0 0, .slice none 0 0].toArray := by kernel_rfl
theorem bd35_0 (x0) (x1) (x2) : Try.prog.built 35 [(0, .slice x0 x1 x2)] = some [.slice x0 x1 x2, .slice none 0 0].toArray := by kernel_rfl
theorem bd35_0_1 (x0) (x1) (x2) (x3) (x4) (x5) : Try.prog.built 35 [(0, .slice x0 x1 x2), (1, .slice x3 x4 x5)] = some [.slice x0 x1 x2, .slice x3 x4 x5].toArray := by kernel_rfl
theorem bd42 : Try.prog.built 42 [] = some [.int .i64 0, .int .i64 0].toArray := by kernel_rfl
theorem bd42_0 (x0) : Try.prog.built 42 [(0, .int .i64 x0)] = some [.int .i64 x0, .int .i64 0].toArray := by kernel_rfl
theorem bd42_1 (x0) : Try.prog.built 42 [(1, .int .i64 x0)] = some [.int .i64 0, .int .i64 x0].toArray := by kernel_rfl
theorem en12 : enterB Try.prog 12 = true := by kernel_rfl
theorem en24 : enterB Try.prog 24 = true := by kernel_rfl
theorem en26 : enterB Try.prog 26 = true := by kernel_rfl
theorem en27 : enterB Try.prog 27 = true := by kernel_rfl
theorem en29 : enterB Try.prog 29 = true := by kernel_rfl
theorem en36 : enterB Try.prog 36 = true := by kernel_rfl
theorem en37 : enterB Try.prog 37 = true := by kernel_rfl
theorem en39 : enterB Try.prog 39 = true := by kernel_rfl
theorem en41 : enterB Try.prog 41 = true := by kernel_rfl
theorem en42 : enterB Try.prog 42 = true := by kernel_rfl
theorem en43 : enterB Try.prog 43 = true := by kernel_rfl
theorem en44 : enterB Try.prog 44 = true := by kernel_rfl
theorem en45 : enterB Try.prog 45 = true := by kernel_rfl
theorem en46 : enterB Try.prog 46 = true := by kernel_rfl
theorem en47 : enterB Try.prog 47 = true := by kernel_rfl
theorem en48 : enterB Try.prog 48 = true := by kernel_rfl
theorem en49 : enterB Try.prog 49 = true := by kernel_rfl
theorem en50 : enterB Try.prog 50 = true := by kernel_rfl
theorem en51 : enterB Try.prog 51 = true := by kernel_rfl
theorem en52 : enterB Try.prog 52 = true := by kernel_rfl
theorem en53 : enterB Try.prog 53 = true := by kernel_rfl
theorem en54 : enterB Try.prog 54 = true := by kernel_rfl
theorem en55 : enterB Try.prog 55 = true := by kernel_rfl
theorem en58 : enterB Try.prog 58 = true := by kernel_rfl
theorem en70 : enterB Try.prog 70 = true := by kernel_rfl
theorem en73 : enterB Try.prog 73 = true := by kernel_rfl
theorem en74 : enterB Try.prog 74 = true := by kernel_rfl
theorem en76 : enterB Try.prog 76 = true := by kernel_rfl
theorem en79 : enterB Try.prog 79 = true := by kernel_rfl
theorem en80 : enterB Try.prog 80 = true := by kernel_rfl
theorem en81 : enterB Try.prog 81 = true := by kernel_rfl
theorem en86 : enterB Try.prog 86 = true := by kernel_rfl
theorem en88 : enterB Try.prog 88 = true := by kernel_rfl
theorem en89 : enterB Try.prog 89 = true := by kernel_rfl
theorem en90 : enterB Try.prog 90 = true := by kernel_rfl
theorem en92 : enterB Try.prog 92 = true := by kernel_rfl
theorem fo23_0 : offB Try.prog 23 0 = some 0 := by kernel_rfl
theorem fo23_1 : offB Try.prog 23 1 = some 1 := by kernel_rfl
theorem fo23_2 : offB Try.prog 23 2 = some 2 := by kernel_rfl
theorem fo23_3 : offB Try.prog 23 3 = some 3 := by kernel_rfl
theorem fo23_4 : offB Try.prog 23 4 = some 4 := by kernel_rfl
theorem fo23_5 : offB Try.prog 23 5 = some 5 := by kernel_rfl
theorem fo27_0 : offB Try.prog 27 0 = some 0 := by kernel_rfl
theorem fo27_1 : offB Try.prog 27 1 = some 1 := by kernel_rfl
theorem fo29_0 : offB Try.prog 29 0 = some 0 := by kernel_rfl
theorem fo29_1 : offB Try.prog 29 1 = some 1 := by kernel_rfl
theorem fo29_2 : offB Try.prog 29 2 = some 2 := by kernel_rfl
theorem fo31_0 : offB Try.prog 31 0 = some 0 := by kernel_rfl
theorem fo31_1 : offB Try.prog 31 1 = some 1 := by kernel_rfl
theorem fo33_0 : offB Try.prog 33 0 = some 0 := by kernel_rfl
theorem fo33_1 : offB Try.prog 33 1 = some 1 := by kernel_rfl
theorem fo33_2 : offB Try.prog 33 2 = some 4 := by kernel_rfl
theorem fo33_3 : offB Try.prog 33 3 = some 6 := by kernel_rfl
theorem fo33_4 : offB Try.prog 33 4 = some 7 := by kernel_rfl
theorem fo35_0 : offB Try.prog 35 0 = some 0 := by kernel_rfl
theorem fo35_1 : offB Try.prog 35 1 = some 1 := by kernel_rfl
theorem fo38_0 : offB Try.prog 38 0 = some 0 := by kernel_rfl
theorem fo38_1 : offB Try.prog 38 1 = some 1 := by kernel_rfl
theorem fo38_2 : offB Try.prog 38 2 = some 2 := by kernel_rfl
theorem fo38_3 : offB Try.prog 38 3 = some 3 := by kernel_rfl
theorem fo38_4 : offB Try.prog 38 4 = some 4 := by kernel_rfl
theorem fo38_5 : offB Try.prog 38 5 = some 5 := by kernel_rfl
theorem fo41_0 : offB Try.prog 41 0 = some 0 := by kernel_rfl
theorem fo41_1 : offB Try.prog 41 1 = some 1 := by kernel_rfl
theorem fo41_2 : offB Try.prog 41 2 = some 2 := by kernel_rfl
theorem fo42_0 : offB Try.prog 42 0 = some 0 := by kernel_rfl
theorem fo42_1 : offB Try.prog 42 1 = some 1 := by kernel_rfl
theorem fo44_0 : offB Try.prog 44 0 = some 0 := by kernel_rfl
theorem fo44_1 : offB Try.prog 44 1 = some 1 := by kernel_rfl
theorem fo44_2 : offB Try.prog 44 2 = some 4 := by kernel_rfl
theorem fo44_3 : offB Try.prog 44 3 = some 6 := by kernel_rfl
theorem fo44_4 : offB Try.prog 44 4 = some 7 := by kernel_rfl
theorem iu3 : Try.prog.underlying 3 = some (.int .i64) := by kernel_rfl
theorem iu111 : Try.prog.underlying 111 = some (.int .u64) := by kernel_rfl
theorem mk24 : mkB Try.prog 24 = some ([.int .i64 0], 1, 8) := by kernel_rfl
theorem mk25 : mkB Try.prog 25 = some ([.slice none 0 0], 1, 24) := by kernel_rfl
theorem mk52 : mkB Try.prog 52 = some ([.int .i64 0, .int .i64 0, .int .i64 0, .int .i64 0, .int .i64 0, .int .i64 0, .int .i64 0, .int .i64 0], 8, 64) := by kernel_rfl
theorem sc3 : scalB Try.prog 3 = true := by kernel_rfl
theorem sc24 : scalB Try.prog 24 = true := by kernel_rfl
theorem sc25 : scalB Try.prog 25 = true := by kernel_rfl
theorem sl24 : slB Try.prog 24 = some (1, 8) := by kernel_rfl
theorem sl25 : slB Try.prog 25 = some (1, 24) := by kernel_rfl
theorem sl49 : slB Try.prog 49 = some (8, 64) := by kernel_rfl
theorem sl52 : slB Try.prog 52 = some (8, 64) := by kernel_rfl
theorem sz3 : szB Try.prog 3 = some 1 := by kernel_rfl
theorem sz24 : szB Try.prog 24 = some 1 := by kernel_rfl
theorem sz25 : szB Try.prog 25 = some 1 := by kernel_rfl
theorem sz29 : szB Try.prog 29 = some 3 := by kernel_rfl
theorem sz31 : szB Try.prog 31 = some 2 := by kernel_rfl
theorem sz33 : szB Try.prog 33 = some 8 := by kernel_rfl
theorem sz35 : szB Try.prog 35 = some 2 := by kernel_rfl
theorem sz38 : szB Try.prog 38 = some 6 := by kernel_rfl
theorem sz41 : szB Try.prog 41 = some 3 := by kernel_rfl
theorem sz42 : szB Try.prog 42 = some 2 := by kernel_rfl
theorem sz44 : szB Try.prog 44 = some 8 := by kernel_rfl
theorem ul24 : Try.prog.underlying 24 = some (.slice (Try.prog.elem 24)) := by kernel_rfl
theorem ul25 : Try.prog.underlying 25 = some (.slice (Try.prog.elem 25)) := by kernel_rfl
theorem ul49 : Try.prog.underlying 49 = some (.slice (Try.prog.elem 49)) := by kernel_rfl
theorem ul52 : Try.prog.underlying 52 = some (.slice (Try.prog.elem 52)) := by kernel_rfl
theorem zr35 : zeroOf Try.prog 35 = some [.slice none 0 0, .slice none 0 0] := by kernel_rfl
theorem zr38 : zeroOf Try.prog 38 = some [.int .i64 0, .int .i64 0, .int .i64 0, .int .i64 0, .int .i64 0, .int .i64 0] := by kernel_rfl
theorem zr41 : zeroOf Try.prog 41 = some [.int .i64 0, .int .i64 0, .int .i64 0] := by kernel_rfl
theorem zr42 : zeroOf Try.prog 42 = some [.int .i64 0, .int .i64 0] := by kernel_rfl
theorem zr44 : zeroOf Try.prog 44 = some [.int .i64 0, .int .i64 0, .int .i64 0, .int .i64 0, .int .i64 0, .int .i64 0, .int .i64 0, .int .i64 0] := by kernel_rfl
end Go.Proofs.Yteldnoimmjihoaa.Wk
