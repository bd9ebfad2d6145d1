/- Facts of the program's tables that the walks lean on. -/
import Derived.Test.YtgpebcidogkofaaProg
import Derived.Test.YtgpebcidogkofaaCuts
import Derived.KernelRfl
namespace Go.Proofs.Ytgpebcidogkofaa.Wk
open Go Go.RowKit Sl
theorem ag23 : aggB Try.prog 23 = true := by kernel_rfl
theorem ag27 : aggB Try.prog 27 = true := by kernel_rfl
theorem ag29 : aggB Try.prog 29 = true := by kernel_rfl
theorem ag35 : aggB Try.prog 35 = true := by kernel_rfl
theorem ag37 : aggB Try.prog 37 = true := by kernel_rfl
theorem ag40 : aggB Try.prog 40 = true := by kernel_rfl
theorem ag43 : aggB Try.prog 43 = true := by kernel_rfl
theorem ag44 : aggB Try.prog 44 = true := by kernel_rfl
theorem ag47 : aggB Try.prog 47 = true := by kernel_rfl
theorem ag51 : aggB Try.prog 51 = true := by kernel_rfl
theorem ag65 : aggB Try.prog 65 = true := by kernel_rfl
theorem ag73 : aggB Try.prog 73 = true := by kernel_rfl
theorem ag96 : aggB Try.prog 96 = true := by kernel_rfl
theorem ag127 : aggB Try.prog 127 = true := by kernel_rfl
theorem bd27 : Try.prog.built 27 [] = some [.slice none 0 0, .slice none 0 0].toArray := by kernel_rfl
theorem bd27_0 (x0) (x1) (x2) : Try.prog.built 27 [(0, .slice x0 x1 x2)] = some [.slice x0 x1 x2, .slice none 0 0].toArray := by kernel_rfl
theorem bd27_0_1 (x0) (x1) (x2) (x3) (x4) (x5) : Try.prog.built 27 [(0, .slice x0 x1 x2), (1, .slice x3 x4 x5)] = some [.slice x0 x1 x2, .slice x3 x4 x5].toArray := by kernel_rfl
theorem bd44 : Try.prog.built 44 [] = some [.int .i64 0, .int .i64 0].toArray := by kernel_rfl
theorem bd44_0 (x0) : Try.prog.built 44 [(0, .int .i64 x0)] = some [.int .i64 x0, .int .i64 0].toArray := by kernel_rfl
theorem bd44_1 (x0) : Try.prog.built 44 [(1, .int .i64 x0)] = some [.int .i64 0, .int .i64 x0].toArray := by kernel_rfl
theorem bl4 : Try.prog.underlying 4 = some .bool := by kernel_rfl
theorem en11 : enterB Try.prog 11 = true := by kernel_rfl
theorem en12 : enterB Try.prog 12 = true := by kernel_rfl
theorem en13 : enterB Try.prog 13 = true := by kernel_rfl
theorem en14 : enterB Try.prog 14 = true := by kernel_rfl
theorem en15 : enterB Try.prog 15 = true := by kernel_rfl
theorem en16 : enterB Try.prog 16 = true := by kernel_rfl
theorem en17 : enterB Try.prog 17 = true := by kernel_rfl
theorem en18 : enterB Try.prog 18 = true := by kernel_rfl
theorem en19 : enterB Try.prog 19 = true := by kernel_rfl
theorem en20 : enterB Try.prog 20 = true := by kernel_rfl
theorem en21 : enterB Try.prog 21 = true := by kernel_rfl
theorem en22 : enterB Try.prog 22 = true := by kernel_rfl
theorem en23 : enterB Try.prog 23 = true := by kernel_rfl
theorem en24 : enterB Try.prog 24 = true := by kernel_rfl
theorem en25 : enterB Try.prog 25 = true := by kernel_rfl
theorem en26 : enterB Try.prog 26 = true := by kernel_rfl
theorem en27 : enterB Try.prog 27 = true := by kernel_rfl
theorem en31 : enterB Try.prog 31 = true := by kernel_rfl
theorem en32 : enterB Try.prog 32 = true := by kernel_rfl
theorem en36 : enterB Try.prog 36 = true := by kernel_rfl
theorem en38 : enterB Try.prog 38 = true := by kernel_rfl
theorem en46 : enterB Try.prog 46 = true := by kernel_rfl
theorem en48 : enterB Try.prog 48 = true := by kernel_rfl
theorem en49 : enterB Try.prog 49 = true := by kernel_rfl
theorem en51 : enterB Try.prog 51 = true := by kernel_rfl
theorem en53 : enterB Try.prog 53 = true := by kernel_rfl
theorem en54 : enterB Try.prog 54 = true := by kernel_rfl
theorem en55 : enterB Try.prog 55 = true := by kernel_rfl
theorem en56 : enterB Try.prog 56 = true := by kernel_rfl
theorem en57 : enterB Try.prog 57 = true := by kernel_rfl
theorem en58 : enterB Try.prog 58 = true := by kernel_rfl
theorem en59 : enterB Try.prog 59 = true := by kernel_rfl
theorem en60 : enterB Try.prog 60 = true := by kernel_rfl
theorem en61 : enterB Try.prog 61 = true := by kernel_rfl
theorem en62 : enterB Try.prog 62 = true := by kernel_rfl
theorem en63 : enterB Try.prog 63 = true := by kernel_rfl
theorem en65 : enterB Try.prog 65 = true := by kernel_rfl
theorem en66 : enterB Try.prog 66 = true := by kernel_rfl
theorem en67 : enterB Try.prog 67 = true := by kernel_rfl
theorem en68 : enterB Try.prog 68 = true := by kernel_rfl
theorem en69 : enterB Try.prog 69 = true := by kernel_rfl
theorem en70 : enterB Try.prog 70 = true := by kernel_rfl
theorem en71 : enterB Try.prog 71 = true := by kernel_rfl
theorem en72 : enterB Try.prog 72 = true := by kernel_rfl
theorem en73 : enterB Try.prog 73 = true := by kernel_rfl
theorem en74 : enterB Try.prog 74 = true := by kernel_rfl
theorem en82 : enterB Try.prog 82 = true := by kernel_rfl
theorem en83 : enterB Try.prog 83 = true := by kernel_rfl
theorem en85 : enterB Try.prog 85 = true := by kernel_rfl
theorem en88 : enterB Try.prog 88 = true := by kernel_rfl
theorem en95 : enterB Try.prog 95 = true := by kernel_rfl
theorem en96 : enterB Try.prog 96 = true := by kernel_rfl
theorem en97 : enterB Try.prog 97 = true := by kernel_rfl
theorem en98 : enterB Try.prog 98 = true := by kernel_rfl
theorem en103 : enterB Try.prog 103 = true := by kernel_rfl
theorem en105 : enterB Try.prog 105 = true := by kernel_rfl
theorem en107 : enterB Try.prog 107 = true := by kernel_rfl
theorem en108 : enterB Try.prog 108 = true := by kernel_rfl
theorem fo23_0 : offB Try.prog 23 0 = some 0 := by kernel_rfl
theorem fo23_1 : offB Try.prog 23 1 = some 1 := by kernel_rfl
theorem fo23_2 : offB Try.prog 23 2 = some 2 := by kernel_rfl
theorem fo23_3 : offB Try.prog 23 3 = some 3 := by kernel_rfl
theorem fo23_4 : offB Try.prog 23 4 = some 4 := by kernel_rfl
theorem fo23_5 : offB Try.prog 23 5 = some 5 := by kernel_rfl
theorem fo27_0 : offB Try.prog 27 0 = some 0 := by kernel_rfl
theorem fo27_1 : offB Try.prog 27 1 = some 1 := by kernel_rfl
theorem fo29_0 : offB Try.prog 29 0 = some 0 := by kernel_rfl
theorem fo29_1 : offB Try.prog 29 1 = some 1 := by kernel_rfl
theorem fo29_2 : offB Try.prog 29 2 = some 2 := by kernel_rfl
theorem fo29_3 : offB Try.prog 29 3 = some 3 := by kernel_rfl
theorem fo29_4 : offB Try.prog 29 4 = some 4 := by kernel_rfl
theorem fo29_5 : offB Try.prog 29 5 = some 5 := by kernel_rfl
theorem fo35_0 : offB Try.prog 35 0 = some 0 := by kernel_rfl
theorem fo35_1 : offB Try.prog 35 1 = some 1 := by kernel_rfl
theorem fo35_2 : offB Try.prog 35 2 = some 2 := by kernel_rfl
theorem fo37_0 : offB Try.prog 37 0 = some 0 := by kernel_rfl
theorem fo37_1 : offB Try.prog 37 1 = some 1 := by kernel_rfl
theorem fo40_0 : offB Try.prog 40 0 = some 0 := by kernel_rfl
theorem fo40_1 : offB Try.prog 40 1 = some 1 := by kernel_rfl
theorem fo40_2 : offB Try.prog 40 2 = some 4 := by kernel_rfl
theorem fo40_3 : offB Try.prog 40 3 = some 6 := by kernel_rfl
theorem fo40_4 : offB Try.prog 40 4 = some 7 := by kernel_rfl
theorem fo40_5 : offB Try.prog 40 5 = some 8 := by kernel_rfl
theorem fo40_6 : offB Try.prog 40 6 = some 9 := by kernel_rfl
theorem fo40_7 : offB Try.prog 40 7 = some 10 := by kernel_rfl
theorem fo40_8 : offB Try.prog 40 8 = some 11 := by kernel_rfl
theorem fo40_9 : offB Try.prog 40 9 = some 12 := by kernel_rfl
theorem fo40_10 : offB Try.prog 40 10 = some 13 := by kernel_rfl
theorem fo40_11 : offB Try.prog 40 11 = some 14 := by kernel_rfl
theorem fo40_12 : offB Try.prog 40 12 = some 15 := by kernel_rfl
theorem fo40_13 : offB Try.prog 40 13 = some 16 := by kernel_rfl
theorem fo40_14 : offB Try.prog 40 14 = some 17 := by kernel_rfl
theorem fo40_15 : offB Try.prog 40 15 = some 18 := by kernel_rfl
theorem fo43_0 : offB Try.prog 43 0 = some 0 := by kernel_rfl
theorem fo43_1 : offB Try.prog 43 1 = some 1 := by kernel_rfl
theorem fo43_2 : offB Try.prog 43 2 = some 2 := by kernel_rfl
theorem fo44_0 : offB Try.prog 44 0 = some 0 := by kernel_rfl
theorem fo44_1 : offB Try.prog 44 1 = some 1 := by kernel_rfl
theorem fo47_0 : offB Try.prog 47 0 = some 0 := by kernel_rfl
theorem fo47_1 : offB Try.prog 47 1 = some 1 := by kernel_rfl
theorem fo47_2 : offB Try.prog 47 2 = some 4 := by kernel_rfl
theorem fo47_3 : offB Try.prog 47 3 = some 6 := by kernel_rfl
theorem fo47_4 : offB Try.prog 47 4 = some 7 := by kernel_rfl
theorem fo47_5 : offB Try.prog 47 5 = some 8 := by kernel_rfl
theorem fo47_6 : offB Try.prog 47 6 = some 9 := by kernel_rfl
theorem fo47_7 : offB Try.prog 47 7 = some 10 := by kernel_rfl
theorem fo47_8 : offB Try.prog 47 8 = some 11 := by kernel_rfl
theorem fo47_9 : offB Try.prog 47 9 = some 12 := by kernel_rfl
theorem fo47_10 : offB Try.prog 47 10 = some 13 := by kernel_rfl
theorem fo47_11 : offB Try.prog 47 11 = some 14 := by kernel_rfl
theorem fo47_12 : offB Try.prog 47 12 = some 15 := by kernel_rfl
theorem fo47_13 : offB Try.prog 47 13 = some 16 := by kernel_rfl
theorem fo47_14 : offB Try.prog 47 14 = some 17 := by kernel_rfl
theorem fo47_15 : offB Try.prog 47 15 = some 18 := by kernel_rfl
theorem fo51_0 : offB Try.prog 51 0 = some 0 := by kernel_rfl
theorem fo51_1 : offB Try.prog 51 1 = some 1 := by kernel_rfl
theorem fo65_0 : offB Try.prog 65 0 = some 0 := by kernel_rfl
theorem fo65_1 : offB Try.prog 65 1 = some 1 := by kernel_rfl
theorem fo65_2 : offB Try.prog 65 2 = some 4 := by kernel_rfl
theorem fo65_3 : offB Try.prog 65 3 = some 6 := by kernel_rfl
theorem fo65_4 : offB Try.prog 65 4 = some 7 := by kernel_rfl
theorem fo73_0 : offB Try.prog 73 0 = some 0 := by kernel_rfl
theorem fo73_1 : offB Try.prog 73 1 = some 1 := by kernel_rfl
theorem fo73_2 : offB Try.prog 73 2 = some 4 := by kernel_rfl
theorem fo73_3 : offB Try.prog 73 3 = some 6 := by kernel_rfl
theorem fo73_4 : offB Try.prog 73 4 = some 7 := by kernel_rfl
theorem fo96_0 : offB Try.prog 96 0 = some 0 := by kernel_rfl
theorem fo96_1 : offB Try.prog 96 1 = some 1 := by kernel_rfl
theorem fo96_2 : offB Try.prog 96 2 = some 2 := by kernel_rfl
theorem fo96_3 : offB Try.prog 96 3 = some 3 := by kernel_rfl
theorem fo127_0 : offB Try.prog 127 0 = some 0 := by kernel_rfl
theorem fo127_1 : offB Try.prog 127 1 = some 1 := by kernel_rfl
theorem fo127_2 : offB Try.prog 127 2 = some 2 := by kernel_rfl
theorem fo127_3 : offB Try.prog 127 3 = some 3 := by kernel_rfl
theorem iu3 : Try.prog.underlying 3 = some (.int .i64) := by kernel_rfl
theorem iu123 : Try.prog.underlying 123 = some (.int .u64) := by kernel_rfl
theorem mk24 : mkB Try.prog 24 = some ([.int .i64 0], 1, 8) := by kernel_rfl
theorem mk25 : mkB Try.prog 25 = some ([.slice none 0 0], 1, 24) := by kernel_rfl
theorem mk45 : mkB Try.prog 45 = some ([.int .i64 0, .int .i64 0, .int .i64 0, .int .i64 0], 4, 32) := by kernel_rfl
theorem mk79 : mkB Try.prog 79 = some ([.int .i64 0, .int .i64 0, .int .i64 0, .int .i64 0, .int .i64 0, .int .i64 0, .int .i64 0, .int .i64 0], 8, 64) := by kernel_rfl
theorem sc3 : scalB Try.prog 3 = true := by kernel_rfl
theorem sc24 : scalB Try.prog 24 = true := by kernel_rfl
theorem sc25 : scalB Try.prog 25 = true := by kernel_rfl
theorem sc38 : scalB Try.prog 38 = true := by kernel_rfl
theorem sc45 : scalB Try.prog 45 = true := by kernel_rfl
theorem sl24 : slB Try.prog 24 = some (1, 8) := by kernel_rfl
theorem sl25 : slB Try.prog 25 = some (1, 24) := by kernel_rfl
theorem sl38 : slB Try.prog 38 = some (4, 32) := by kernel_rfl
theorem sl45 : slB Try.prog 45 = some (4, 32) := by kernel_rfl
theorem sl76 : slB Try.prog 76 = some (8, 64) := by kernel_rfl
theorem sl79 : slB Try.prog 79 = some (8, 64) := by kernel_rfl
theorem sz3 : szB Try.prog 3 = some 1 := by kernel_rfl
theorem sz23 : szB Try.prog 23 = some 6 := by kernel_rfl
theorem sz24 : szB Try.prog 24 = some 1 := by kernel_rfl
theorem sz25 : szB Try.prog 25 = some 1 := by kernel_rfl
theorem sz27 : szB Try.prog 27 = some 2 := by kernel_rfl
theorem sz29 : szB Try.prog 29 = some 6 := by kernel_rfl
theorem sz35 : szB Try.prog 35 = some 3 := by kernel_rfl
theorem sz37 : szB Try.prog 37 = some 2 := by kernel_rfl
theorem sz40 : szB Try.prog 40 = some 19 := by kernel_rfl
theorem sz43 : szB Try.prog 43 = some 3 := by kernel_rfl
theorem sz44 : szB Try.prog 44 = some 2 := by kernel_rfl
theorem sz45 : szB Try.prog 45 = some 1 := by kernel_rfl
theorem sz47 : szB Try.prog 47 = some 19 := by kernel_rfl
theorem sz51 : szB Try.prog 51 = some 2 := by kernel_rfl
theorem sz65 : szB Try.prog 65 = some 8 := by kernel_rfl
theorem sz73 : szB Try.prog 73 = some 8 := by kernel_rfl
theorem sz96 : szB Try.prog 96 = some 4 := by kernel_rfl
theorem sz127 : szB Try.prog 127 = some 4 := by kernel_rfl
theorem ul24 : Try.prog.underlying 24 = some (.slice (Try.prog.elem 24)) := by kernel_rfl
theorem ul25 : Try.prog.underlying 25 = some (.slice (Try.prog.elem 25)) := by kernel_rfl
theorem ul38 : Try.prog.underlying 38 = some (.slice (Try.prog.elem 38)) := by kernel_rfl
theorem ul45 : Try.prog.underlying 45 = some (.slice (Try.prog.elem 45)) := by kernel_rfl
theorem ul76 : Try.prog.underlying 76 = some (.slice (Try.prog.elem 76)) := by kernel_rfl
theorem ul79 : Try.prog.underlying 79 = some (.slice (Try.prog.elem 79)) := by kernel_rfl
theorem zr27 : zeroOf Try.prog 27 = some [.slice none 0 0, .slice none 0 0] := by kernel_rfl
theorem zr29 : zeroOf Try.prog 29 = some [.int .i64 0, .int .i64 0, .int .i64 0, .int .i64 0, .int .i64 0, .int .i64 0] := by kernel_rfl
theorem zr43 : zeroOf Try.prog 43 = some [.int .i64 0, .int .i64 0, .int .i64 0] := by kernel_rfl
theorem zr44 : zeroOf Try.prog 44 = some [.int .i64 0, .int .i64 0] := by kernel_rfl
theorem zr47 : zeroOf Try.prog 47 = some [.int .i64 0, .int .i64 0, .int .i64 0, .int .i64 0, .int .i64 0, .int .i64 0, .int .i64 0, .int .i64 0, .int .i64 0, .int .i64 0, .int .i64 0, .int .i64 0, .int .i64 0, .int .i64 0, .slice none 0 0, .slice none 0 0, .slice none 0 0, .slice none 0 0, .slice none 0 0] := by kernel_rfl
theorem zr65 : zeroOf Try.prog 65 = some [.int .i64 0, .int .i64 0, .int .i64 0, .int .i64 0, .int .i64 0, .int .i64 0, .int .i64 0, .int .i64 0] := by kernel_rfl
theorem zr96 : zeroOf Try.prog 96 = some [.int .i64 0, .int .i64 0, .int .i64 0, .int .i64 0] := by kernel_rfl
end Go.Proofs.Ytgpebcidogkofaa.Wk
