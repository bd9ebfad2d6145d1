/- Facts of the program's tables that the walks lean on. -/
import Derived.Test.YtgilfekfplfohaaProg
import Derived.Test.YtgilfekfplfohaaNest
import Derived.KernelRfl
namespace Go.Proofs.Ytgilfekfplfohaa.Wk
open Go Go.RowKit Sl
theorem ag30 : aggB Try.prog 30 = true := by kernel_rfl
theorem ag33 : aggB Try.prog 33 = true := by kernel_rfl
theorem ag47 : aggB Try.prog 47 = true := by kernel_rfl
theorem ag49 : aggB Try.prog 49 = true := by kernel_rfl
theorem ag56 : aggB Try.prog 56 = true := by kernel_rfl
theorem ag58 : aggB Try.prog 58 = true := by kernel_rfl
theorem ag64 : aggB Try.prog 64 = true := by kernel_rfl
theorem ag65 : aggB Try.prog 65 = true := by kernel_rfl
theorem ag82 : aggB Try.prog 82 = true := by kernel_rfl
theorem ag89 : aggB Try.prog 89 = true := by kernel_rfl
theorem ag113 : aggB Try.prog 113 = true := by kernel_rfl
theorem bl4 : Try.prog.underlying 4 = some .bool := by kernel_rfl
theorem en15 : enterB Try.prog 15 = true := by kernel_rfl
theorem en16 : enterB Try.prog 16 = true := by kernel_rfl
theorem en17 : enterB Try.prog 17 = true := by kernel_rfl
theorem en18 : enterB Try.prog 18 = true := by kernel_rfl
theorem en19 : enterB Try.prog 19 = true := by kernel_rfl
theorem en20 : enterB Try.prog 20 = true := by kernel_rfl
theorem en21 : enterB Try.prog 21 = true := by kernel_rfl
theorem en22 : enterB Try.prog 22 = true := by kernel_rfl
theorem en23 : enterB Try.prog 23 = true := by kernel_rfl
theorem en24 : enterB Try.prog 24 = true := by kernel_rfl
theorem en25 : enterB Try.prog 25 = true := by kernel_rfl
theorem en26 : enterB Try.prog 26 = true := by kernel_rfl
theorem en27 : enterB Try.prog 27 = true := by kernel_rfl
theorem en28 : enterB Try.prog 28 = true := by kernel_rfl
theorem en29 : enterB Try.prog 29 = true := by kernel_rfl
theorem en30 : enterB Try.prog 30 = true := by kernel_rfl
theorem en31 : enterB Try.prog 31 = true := by kernel_rfl
theorem en32 : enterB Try.prog 32 = true := by kernel_rfl
theorem en33 : enterB Try.prog 33 = true := by kernel_rfl
theorem en34 : enterB Try.prog 34 = true := by kernel_rfl
theorem en35 : enterB Try.prog 35 = true := by kernel_rfl
theorem en46 : enterB Try.prog 46 = true := by kernel_rfl
theorem en48 : enterB Try.prog 48 = true := by kernel_rfl
theorem en56 : enterB Try.prog 56 = true := by kernel_rfl
theorem en64 : enterB Try.prog 64 = true := by kernel_rfl
theorem en65 : enterB Try.prog 65 = true := by kernel_rfl
theorem en66 : enterB Try.prog 66 = true := by kernel_rfl
theorem en67 : enterB Try.prog 67 = true := by kernel_rfl
theorem en68 : enterB Try.prog 68 = true := by kernel_rfl
theorem en69 : enterB Try.prog 69 = true := by kernel_rfl
theorem en70 : enterB Try.prog 70 = true := by kernel_rfl
theorem en71 : enterB Try.prog 71 = true := by kernel_rfl
theorem en72 : enterB Try.prog 72 = true := by kernel_rfl
theorem en73 : enterB Try.prog 73 = true := by kernel_rfl
theorem en74 : enterB Try.prog 74 = true := by kernel_rfl
theorem en75 : enterB Try.prog 75 = true := by kernel_rfl
theorem en76 : enterB Try.prog 76 = true := by kernel_rfl
theorem en77 : enterB Try.prog 77 = true := by kernel_rfl
theorem en78 : enterB Try.prog 78 = true := by kernel_rfl
theorem en79 : enterB Try.prog 79 = true := by kernel_rfl
theorem en80 : enterB Try.prog 80 = true := by kernel_rfl
theorem en83 : enterB Try.prog 83 = true := by kernel_rfl
theorem en84 : enterB Try.prog 84 = true := by kernel_rfl
theorem en86 : enterB Try.prog 86 = true := by kernel_rfl
theorem en90 : enterB Try.prog 90 = true := by kernel_rfl
theorem en107 : enterB Try.prog 107 = true := by kernel_rfl
theorem en108 : enterB Try.prog 108 = true := by kernel_rfl
theorem en110 : enterB Try.prog 110 = true := by kernel_rfl
theorem en114 : enterB Try.prog 114 = true := by kernel_rfl
theorem en119 : enterB Try.prog 119 = true := by kernel_rfl
theorem fo30_0 : offB Try.prog 30 0 = some 0 := by kernel_rfl
theorem fo30_1 : offB Try.prog 30 1 = some 1 := by kernel_rfl
theorem fo33_0 : offB Try.prog 33 0 = some 0 := by kernel_rfl
theorem fo33_1 : offB Try.prog 33 1 = some 1 := by kernel_rfl
theorem fo47_0 : offB Try.prog 47 0 = some 0 := by kernel_rfl
theorem fo47_1 : offB Try.prog 47 1 = some 1 := by kernel_rfl
theorem fo47_2 : offB Try.prog 47 2 = some 2 := by kernel_rfl
theorem fo47_3 : offB Try.prog 47 3 = some 3 := by kernel_rfl
theorem fo47_4 : offB Try.prog 47 4 = some 4 := by kernel_rfl
theorem fo47_5 : offB Try.prog 47 5 = some 5 := by kernel_rfl
theorem fo49_0 : offB Try.prog 49 0 = some 0 := by kernel_rfl
theorem fo49_1 : offB Try.prog 49 1 = some 1 := by kernel_rfl
theorem fo49_2 : offB Try.prog 49 2 = some 2 := by kernel_rfl
theorem fo49_3 : offB Try.prog 49 3 = some 3 := by kernel_rfl
theorem fo49_4 : offB Try.prog 49 4 = some 4 := by kernel_rfl
theorem fo49_5 : offB Try.prog 49 5 = some 5 := by kernel_rfl
theorem fo56_0 : offB Try.prog 56 0 = some 0 := by kernel_rfl
theorem fo56_1 : offB Try.prog 56 1 = some 1 := by kernel_rfl
theorem fo56_2 : offB Try.prog 56 2 = some 2 := by kernel_rfl
theorem fo58_0 : offB Try.prog 58 0 = some 0 := by kernel_rfl
theorem fo58_1 : offB Try.prog 58 1 = some 1 := by kernel_rfl
theorem fo64_0 : offB Try.prog 64 0 = some 0 := by kernel_rfl
theorem fo64_1 : offB Try.prog 64 1 = some 1 := by kernel_rfl
theorem fo64_2 : offB Try.prog 64 2 = some 2 := by kernel_rfl
theorem fo65_0 : offB Try.prog 65 0 = some 0 := by kernel_rfl
theorem fo65_1 : offB Try.prog 65 1 = some 1 := by kernel_rfl
theorem fo82_0 : offB Try.prog 82 0 = some 0 := by kernel_rfl
theorem fo82_1 : offB Try.prog 82 1 = some 1 := by kernel_rfl
theorem fo82_2 : offB Try.prog 82 2 = some 4 := by kernel_rfl
theorem fo82_3 : offB Try.prog 82 3 = some 6 := by kernel_rfl
theorem fo82_4 : offB Try.prog 82 4 = some 7 := by kernel_rfl
theorem fo89_0 : offB Try.prog 89 0 = some 0 := by kernel_rfl
theorem fo89_1 : offB Try.prog 89 1 = some 1 := by kernel_rfl
theorem fo89_2 : offB Try.prog 89 2 = some 4 := by kernel_rfl
theorem fo89_3 : offB Try.prog 89 3 = some 6 := by kernel_rfl
theorem fo89_4 : offB Try.prog 89 4 = some 7 := by kernel_rfl
theorem fo113_0 : offB Try.prog 113 0 = some 0 := by kernel_rfl
theorem fo113_1 : offB Try.prog 113 1 = some 1 := by kernel_rfl
theorem fo113_2 : offB Try.prog 113 2 = some 2 := by kernel_rfl
theorem fo113_3 : offB Try.prog 113 3 = some 3 := by kernel_rfl
theorem mk22 : mkB Try.prog 22 = some ([.int .i64 0], 1, 8) := by kernel_rfl
theorem mk28 : mkB Try.prog 28 = some ([.slice none 0 0], 1, 24) := by kernel_rfl
theorem mk37 : mkB Try.prog 37 = some ([.bool false], 1, 1) := by kernel_rfl
theorem mk40 : mkB Try.prog 40 = some ([.int .i64 0, .int .i64 0, .int .i64 0, .int .i64 0, .int .i64 0, .int .i64 0, .int .i64 0, .int .i64 0], 8, 64) := by kernel_rfl
theorem sc3 : scalB Try.prog 3 = true := by kernel_rfl
theorem sc4 : scalB Try.prog 4 = true := by kernel_rfl
theorem sc22 : scalB Try.prog 22 = true := by kernel_rfl
theorem sc28 : scalB Try.prog 28 = true := by kernel_rfl
theorem sl22 : slB Try.prog 22 = some (1, 8) := by kernel_rfl
theorem sl28 : slB Try.prog 28 = some (1, 24) := by kernel_rfl
theorem sl36 : slB Try.prog 36 = some (8, 64) := by kernel_rfl
theorem sl37 : slB Try.prog 37 = some (1, 1) := by kernel_rfl
theorem sl40 : slB Try.prog 40 = some (8, 64) := by kernel_rfl
theorem sl66 : slB Try.prog 66 = some (4, 32) := by kernel_rfl
theorem sz3 : szB Try.prog 3 = some 1 := by kernel_rfl
theorem sz4 : szB Try.prog 4 = some 1 := by kernel_rfl
theorem sz22 : szB Try.prog 22 = some 1 := by kernel_rfl
theorem sz28 : szB Try.prog 28 = some 1 := by kernel_rfl
theorem sz30 : szB Try.prog 30 = some 2 := by kernel_rfl
theorem sz33 : szB Try.prog 33 = some 2 := by kernel_rfl
theorem sz47 : szB Try.prog 47 = some 6 := by kernel_rfl
theorem sz49 : szB Try.prog 49 = some 6 := by kernel_rfl
theorem sz56 : szB Try.prog 56 = some 3 := by kernel_rfl
theorem sz58 : szB Try.prog 58 = some 2 := by kernel_rfl
theorem sz64 : szB Try.prog 64 = some 3 := by kernel_rfl
theorem sz65 : szB Try.prog 65 = some 2 := by kernel_rfl
theorem sz82 : szB Try.prog 82 = some 8 := by kernel_rfl
theorem sz89 : szB Try.prog 89 = some 8 := by kernel_rfl
theorem sz113 : szB Try.prog 113 = some 4 := by kernel_rfl
theorem ul22 : Try.prog.underlying 22 = some (.slice (Try.prog.elem 22)) := by kernel_rfl
theorem ul28 : Try.prog.underlying 28 = some (.slice (Try.prog.elem 28)) := by kernel_rfl
theorem ul36 : Try.prog.underlying 36 = some (.slice (Try.prog.elem 36)) := by kernel_rfl
theorem ul37 : Try.prog.underlying 37 = some (.slice (Try.prog.elem 37)) := by kernel_rfl
theorem ul40 : Try.prog.underlying 40 = some (.slice (Try.prog.elem 40)) := by kernel_rfl
theorem ul66 : Try.prog.underlying 66 = some (.slice (Try.prog.elem 66)) := by kernel_rfl
theorem zr33 : zeroOf Try.prog 33 = some [.slice none 0 0, .slice none 0 0] := by kernel_rfl
theorem zr49 : zeroOf Try.prog 49 = some [.int .i64 0, .int .i64 0, .int .i64 0, .int .i64 0, .int .i64 0, .int .i64 0] := by kernel_rfl
theorem zr64 : zeroOf Try.prog 64 = some [.int .i64 0, .int .i64 0, .int .i64 0] := by kernel_rfl
theorem zr65 : zeroOf Try.prog 65 = some [.int .i64 0, .int .i64 0] := by kernel_rfl
theorem zr82 : zeroOf Try.prog 82 = some [.int .i64 0, .int .i64 0, .int .i64 0, .int .i64 0, .int .i64 0, .int .i64 0, .int .i64 0, .int .i64 0] := by kernel_rfl
end Go.Proofs.Ytgilfekfplfohaa.Wk
