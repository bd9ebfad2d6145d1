/- Facts of the program's tables that the walks lean on. -/
import Derived.Test.YtjloiphocdaahaaGreatProg
import Derived.Test.YtjloiphocdaahaaGreatRun
import Derived.KernelRfl
namespace Go.Proofs.YtjloiphocdaahaaGreat.Wk
open Go Go.RowKit Sl
theorem ag23 : aggB Tryz.prog 23 = true := by kernel_rfl
theorem ag34 : aggB Tryz.prog 34 = true := by kernel_rfl
theorem ag37 : aggB Tryz.prog 37 = true := by kernel_rfl
theorem ag66 : aggB Tryz.prog 66 = true := by kernel_rfl
theorem ag68 : aggB Tryz.prog 68 = true := by kernel_rfl
theorem ag71 : aggB Tryz.prog 71 = true := by kernel_rfl
theorem ag76 : aggB Tryz.prog 76 = true := by kernel_rfl
theorem ag78 : aggB Tryz.prog 78 = true := by kernel_rfl
theorem ag79 : aggB Tryz.prog 79 = true := by kernel_rfl
theorem ag81 : aggB Tryz.prog 81 = true := by kernel_rfl
theorem ag95 : aggB Tryz.prog 95 = true := by kernel_rfl
theorem ag116 : aggB Tryz.prog 116 = true := by kernel_rfl
theorem ag126 : aggB Tryz.prog 126 = true := by kernel_rfl
theorem bd116 : Tryz.prog.built 116 [] = some [.int .i64 0, .int .i64 0, .int .i64 0, .int .i64 0].toArray := by kernel_rfl
theorem en11 : enterB Tryz.prog 11 = true := by kernel_rfl
theorem en17 : enterB Tryz.prog 17 = true := by kernel_rfl
theorem en23 : enterB Tryz.prog 23 = true := by kernel_rfl
theorem en25 : enterB Tryz.prog 25 = true := by kernel_rfl
theorem en27 : enterB Tryz.prog 27 = true := by kernel_rfl
theorem en28 : enterB Tryz.prog 28 = true := by kernel_rfl
theorem en31 : enterB Tryz.prog 31 = true := by kernel_rfl
theorem en32 : enterB Tryz.prog 32 = true := by kernel_rfl
theorem en34 : enterB Tryz.prog 34 = true := by kernel_rfl
theorem en37 : enterB Tryz.prog 37 = true := by kernel_rfl
theorem en40 : enterB Tryz.prog 40 = true := by kernel_rfl
theorem en41 : enterB Tryz.prog 41 = true := by kernel_rfl
theorem en43 : enterB Tryz.prog 43 = true := by kernel_rfl
theorem en44 : enterB Tryz.prog 44 = true := by kernel_rfl
theorem en46 : enterB Tryz.prog 46 = true := by kernel_rfl
theorem en47 : enterB Tryz.prog 47 = true := by kernel_rfl
theorem en48 : enterB Tryz.prog 48 = true := by kernel_rfl
theorem en49 : enterB Tryz.prog 49 = true := by kernel_rfl
theorem en50 : enterB Tryz.prog 50 = true := by kernel_rfl
theorem en51 : enterB Tryz.prog 51 = true := by kernel_rfl
theorem en52 : enterB Tryz.prog 52 = true := by kernel_rfl
theorem en53 : enterB Tryz.prog 53 = true := by kernel_rfl
theorem en54 : enterB Tryz.prog 54 = true := by kernel_rfl
theorem en55 : enterB Tryz.prog 55 = true := by kernel_rfl
theorem en56 : enterB Tryz.prog 56 = true := by kernel_rfl
theorem en57 : enterB Tryz.prog 57 = true := by kernel_rfl
theorem en58 : enterB Tryz.prog 58 = true := by kernel_rfl
theorem en59 : enterB Tryz.prog 59 = true := by kernel_rfl
theorem en60 : enterB Tryz.prog 60 = true := by kernel_rfl
theorem en61 : enterB Tryz.prog 61 = true := by kernel_rfl
theorem en62 : enterB Tryz.prog 62 = true := by kernel_rfl
theorem en63 : enterB Tryz.prog 63 = true := by kernel_rfl
theorem en64 : enterB Tryz.prog 64 = true := by kernel_rfl
theorem en65 : enterB Tryz.prog 65 = true := by kernel_rfl
theorem en66 : enterB Tryz.prog 66 = true := by kernel_rfl
theorem en68 : enterB Tryz.prog 68 = true := by kernel_rfl
theorem en73 : enterB Tryz.prog 73 = true := by kernel_rfl
theorem en74 : enterB Tryz.prog 74 = true := by kernel_rfl
theorem en75 : enterB Tryz.prog 75 = true := by kernel_rfl
theorem en76 : enterB Tryz.prog 76 = true := by kernel_rfl
theorem en77 : enterB Tryz.prog 77 = true := by kernel_rfl
theorem en78 : enterB Tryz.prog 78 = true := by kernel_rfl
theorem en79 : enterB Tryz.prog 79 = true := by kernel_rfl
theorem en80 : enterB Tryz.prog 80 = true := by kernel_rfl
theorem en81 : enterB Tryz.prog 81 = true := by kernel_rfl
theorem en82 : enterB Tryz.prog 82 = true := by kernel_rfl
theorem en83 : enterB Tryz.prog 83 = true := by kernel_rfl
theorem en84 : enterB Tryz.prog 84 = true := by kernel_rfl
theorem en85 : enterB Tryz.prog 85 = true := by kernel_rfl
theorem en86 : enterB Tryz.prog 86 = true := by kernel_rfl
theorem en87 : enterB Tryz.prog 87 = true := by kernel_rfl
theorem en88 : enterB Tryz.prog 88 = true := by kernel_rfl
theorem en89 : enterB Tryz.prog 89 = true := by kernel_rfl
theorem en93 : enterB Tryz.prog 93 = true := by kernel_rfl
theorem en94 : enterB Tryz.prog 94 = true := by kernel_rfl
theorem en95 : enterB Tryz.prog 95 = true := by kernel_rfl
theorem en96 : enterB Tryz.prog 96 = true := by kernel_rfl
theorem en97 : enterB Tryz.prog 97 = true := by kernel_rfl
theorem en98 : enterB Tryz.prog 98 = true := by kernel_rfl
theorem en99 : enterB Tryz.prog 99 = true := by kernel_rfl
theorem en101 : enterB Tryz.prog 101 = true := by kernel_rfl
theorem en102 : enterB Tryz.prog 102 = true := by kernel_rfl
theorem en103 : enterB Tryz.prog 103 = true := by kernel_rfl
theorem en104 : enterB Tryz.prog 104 = true := by kernel_rfl
theorem en105 : enterB Tryz.prog 105 = true := by kernel_rfl
theorem en106 : enterB Tryz.prog 106 = true := by kernel_rfl
theorem en107 : enterB Tryz.prog 107 = true := by kernel_rfl
theorem fo23_0 : offB Tryz.prog 23 0 = some 0 := by kernel_rfl
theorem fo23_1 : offB Tryz.prog 23 1 = some 1 := by kernel_rfl
theorem fo23_2 : offB Tryz.prog 23 2 = some 2 := by kernel_rfl
theorem fo23_3 : offB Tryz.prog 23 3 = some 3 := by kernel_rfl
theorem fo23_4 : offB Tryz.prog 23 4 = some 4 := by kernel_rfl
theorem fo23_5 : offB Tryz.prog 23 5 = some 5 := by kernel_rfl
theorem fo27_0 : offB Tryz.prog 27 0 = some 0 := by kernel_rfl
theorem fo27_1 : offB Tryz.prog 27 1 = some 6 := by kernel_rfl
theorem fo27_2 : offB Tryz.prog 27 2 = some 7 := by kernel_rfl
theorem fo27_3 : offB Tryz.prog 27 3 = some 8 := by kernel_rfl
theorem fo27_4 : offB Tryz.prog 27 4 = some 9 := by kernel_rfl
theorem fo27_5 : offB Tryz.prog 27 5 = some 10 := by kernel_rfl
theorem fo27_6 : offB Tryz.prog 27 6 = some 11 := by kernel_rfl
theorem fo27_7 : offB Tryz.prog 27 7 = some 12 := by kernel_rfl
theorem fo34_0 : offB Tryz.prog 34 0 = some 0 := by kernel_rfl
theorem fo34_1 : offB Tryz.prog 34 1 = some 1 := by kernel_rfl
theorem fo34_2 : offB Tryz.prog 34 2 = some 2 := by kernel_rfl
theorem fo34_3 : offB Tryz.prog 34 3 = some 3 := by kernel_rfl
theorem fo34_4 : offB Tryz.prog 34 4 = some 4 := by kernel_rfl
theorem fo34_5 : offB Tryz.prog 34 5 = some 5 := by kernel_rfl
theorem fo37_0 : offB Tryz.prog 37 0 = some 0 := by kernel_rfl
theorem fo37_1 : offB Tryz.prog 37 1 = some 6 := by kernel_rfl
theorem fo37_2 : offB Tryz.prog 37 2 = some 7 := by kernel_rfl
theorem fo37_3 : offB Tryz.prog 37 3 = some 8 := by kernel_rfl
theorem fo37_4 : offB Tryz.prog 37 4 = some 9 := by kernel_rfl
theorem fo37_5 : offB Tryz.prog 37 5 = some 10 := by kernel_rfl
theorem fo37_6 : offB Tryz.prog 37 6 = some 11 := by kernel_rfl
theorem fo37_7 : offB Tryz.prog 37 7 = some 12 := by kernel_rfl
theorem fo66_0 : offB Tryz.prog 66 0 = some 0 := by kernel_rfl
theorem fo66_1 : offB Tryz.prog 66 1 = some 1 := by kernel_rfl
theorem fo66_2 : offB Tryz.prog 66 2 = some 2 := by kernel_rfl
theorem fo68_0 : offB Tryz.prog 68 0 = some 0 := by kernel_rfl
theorem fo68_1 : offB Tryz.prog 68 1 = some 1 := by kernel_rfl
theorem fo71_0 : offB Tryz.prog 71 0 = some 0 := by kernel_rfl
theorem fo71_1 : offB Tryz.prog 71 1 = some 1 := by kernel_rfl
theorem fo71_2 : offB Tryz.prog 71 2 = some 4 := by kernel_rfl
theorem fo71_3 : offB Tryz.prog 71 3 = some 6 := by kernel_rfl
theorem fo71_4 : offB Tryz.prog 71 4 = some 7 := by kernel_rfl
theorem fo71_5 : offB Tryz.prog 71 5 = some 8 := by kernel_rfl
theorem fo71_6 : offB Tryz.prog 71 6 = some 9 := by kernel_rfl
theorem fo71_7 : offB Tryz.prog 71 7 = some 10 := by kernel_rfl
theorem fo71_8 : offB Tryz.prog 71 8 = some 11 := by kernel_rfl
theorem fo71_9 : offB Tryz.prog 71 9 = some 12 := by kernel_rfl
theorem fo71_10 : offB Tryz.prog 71 10 = some 13 := by kernel_rfl
theorem fo71_11 : offB Tryz.prog 71 11 = some 14 := by kernel_rfl
theorem fo71_12 : offB Tryz.prog 71 12 = some 15 := by kernel_rfl
theorem fo71_13 : offB Tryz.prog 71 13 = some 16 := by kernel_rfl
theorem fo71_14 : offB Tryz.prog 71 14 = some 17 := by kernel_rfl
theorem fo71_15 : offB Tryz.prog 71 15 = some 18 := by kernel_rfl
theorem fo76_0 : offB Tryz.prog 76 0 = some 0 := by kernel_rfl
theorem fo76_1 : offB Tryz.prog 76 1 = some 1 := by kernel_rfl
theorem fo76_2 : offB Tryz.prog 76 2 = some 4 := by kernel_rfl
theorem fo76_3 : offB Tryz.prog 76 3 = some 6 := by kernel_rfl
theorem fo76_4 : offB Tryz.prog 76 4 = some 7 := by kernel_rfl
theorem fo78_0 : offB Tryz.prog 78 0 = some 0 := by kernel_rfl
theorem fo78_1 : offB Tryz.prog 78 1 = some 1 := by kernel_rfl
theorem fo78_2 : offB Tryz.prog 78 2 = some 2 := by kernel_rfl
theorem fo79_0 : offB Tryz.prog 79 0 = some 0 := by kernel_rfl
theorem fo79_1 : offB Tryz.prog 79 1 = some 1 := by kernel_rfl
theorem fo81_0 : offB Tryz.prog 81 0 = some 0 := by kernel_rfl
theorem fo81_1 : offB Tryz.prog 81 1 = some 1 := by kernel_rfl
theorem fo81_2 : offB Tryz.prog 81 2 = some 4 := by kernel_rfl
theorem fo81_3 : offB Tryz.prog 81 3 = some 6 := by kernel_rfl
theorem fo81_4 : offB Tryz.prog 81 4 = some 7 := by kernel_rfl
theorem fo95_0 : offB Tryz.prog 95 0 = some 0 := by kernel_rfl
theorem fo95_1 : offB Tryz.prog 95 1 = some 1 := by kernel_rfl
theorem fo95_2 : offB Tryz.prog 95 2 = some 4 := by kernel_rfl
theorem fo95_3 : offB Tryz.prog 95 3 = some 6 := by kernel_rfl
theorem fo95_4 : offB Tryz.prog 95 4 = some 7 := by kernel_rfl
theorem fo95_5 : offB Tryz.prog 95 5 = some 8 := by kernel_rfl
theorem fo95_6 : offB Tryz.prog 95 6 = some 9 := by kernel_rfl
theorem fo95_7 : offB Tryz.prog 95 7 = some 10 := by kernel_rfl
theorem fo95_8 : offB Tryz.prog 95 8 = some 11 := by kernel_rfl
theorem fo95_9 : offB Tryz.prog 95 9 = some 12 := by kernel_rfl
theorem fo95_10 : offB Tryz.prog 95 10 = some 13 := by kernel_rfl
theorem fo95_11 : offB Tryz.prog 95 11 = some 14 := by kernel_rfl
theorem fo95_12 : offB Tryz.prog 95 12 = some 15 := by kernel_rfl
theorem fo95_13 : offB Tryz.prog 95 13 = some 16 := by kernel_rfl
theorem fo95_14 : offB Tryz.prog 95 14 = some 17 := by kernel_rfl
theorem fo95_15 : offB Tryz.prog 95 15 = some 18 := by kernel_rfl
theorem fo116_0 : offB Tryz.prog 116 0 = some 0 := by kernel_rfl
theorem fo116_1 : offB Tryz.prog 116 1 = some 1 := by kernel_rfl
theorem fo116_2 : offB Tryz.prog 116 2 = some 2 := by kernel_rfl
theorem fo116_3 : offB Tryz.prog 116 3 = some 3 := by kernel_rfl
theorem fo126_0 : offB Tryz.prog 126 0 = some 0 := by kernel_rfl
theorem fo126_1 : offB Tryz.prog 126 1 = some 1 := by kernel_rfl
theorem fo126_2 : offB Tryz.prog 126 2 = some 2 := by kernel_rfl
theorem fo126_3 : offB Tryz.prog 126 3 = some 3 := by kernel_rfl
theorem mk24 : mkB Tryz.prog 24 = some ([.int .i64 0], 1, 8) := by kernel_rfl
theorem mk35 : mkB Tryz.prog 35 = some ([.int .i64 0, .int .i64 0, .int .i64 0, .int .i64 0, .int .i64 0, .int .i64 0, .int .i64 0, .int .i64 0, .int .i64 0, .int .i64 0, .int .i64 0, .int .i64 0, .int .i64 0, .int .i64 0, .slice none 0 0, .slice none 0 0, .slice none 0 0, .slice none 0 0, .slice none 0 0], 19, 232) := by kernel_rfl
theorem mk39 : mkB Tryz.prog 39 = some ([.int .i64 0, .int .i64 0, .int .i64 0, .int .i64 0, .int .i64 0, .int .i64 0, .int .i64 0, .int .i64 0], 8, 64) := by kernel_rfl
theorem mk69 : mkB Tryz.prog 69 = some ([.int .i64 0, .int .i64 0, .int .i64 0, .int .i64 0], 4, 32) := by kernel_rfl
theorem mk131 : mkB Tryz.prog 131 = some ([.string ⟨#[]⟩], 1, 16) := by kernel_rfl
theorem sc3 : scalB Tryz.prog 3 = true := by kernel_rfl
theorem sc9 : scalB Tryz.prog 9 = true := by kernel_rfl
theorem sc24 : scalB Tryz.prog 24 = true := by kernel_rfl
theorem sc25 : scalB Tryz.prog 25 = true := by kernel_rfl
theorem sc35 : scalB Tryz.prog 35 = true := by kernel_rfl
theorem sc69 : scalB Tryz.prog 69 = true := by kernel_rfl
theorem sc93 : scalB Tryz.prog 93 = true := by kernel_rfl
theorem sl24 : slB Tryz.prog 24 = some (1, 8) := by kernel_rfl
theorem sl25 : slB Tryz.prog 25 = some (19, 232) := by kernel_rfl
theorem sl29 : slB Tryz.prog 29 = some (8, 64) := by kernel_rfl
theorem sl35 : slB Tryz.prog 35 = some (19, 232) := by kernel_rfl
theorem sl39 : slB Tryz.prog 39 = some (8, 64) := by kernel_rfl
theorem sl69 : slB Tryz.prog 69 = some (4, 32) := by kernel_rfl
theorem sl93 : slB Tryz.prog 93 = some (4, 32) := by kernel_rfl
theorem sl131 : slB Tryz.prog 131 = some (1, 16) := by kernel_rfl
theorem sz3 : szB Tryz.prog 3 = some 1 := by kernel_rfl
theorem sz23 : szB Tryz.prog 23 = some 6 := by kernel_rfl
theorem sz24 : szB Tryz.prog 24 = some 1 := by kernel_rfl
theorem sz34 : szB Tryz.prog 34 = some 6 := by kernel_rfl
theorem sz35 : szB Tryz.prog 35 = some 1 := by kernel_rfl
theorem sz37 : szB Tryz.prog 37 = some 13 := by kernel_rfl
theorem sz66 : szB Tryz.prog 66 = some 3 := by kernel_rfl
theorem sz68 : szB Tryz.prog 68 = some 2 := by kernel_rfl
theorem sz69 : szB Tryz.prog 69 = some 1 := by kernel_rfl
theorem sz71 : szB Tryz.prog 71 = some 19 := by kernel_rfl
theorem sz76 : szB Tryz.prog 76 = some 8 := by kernel_rfl
theorem sz78 : szB Tryz.prog 78 = some 3 := by kernel_rfl
theorem sz79 : szB Tryz.prog 79 = some 2 := by kernel_rfl
theorem sz81 : szB Tryz.prog 81 = some 8 := by kernel_rfl
theorem sz95 : szB Tryz.prog 95 = some 19 := by kernel_rfl
theorem sz116 : szB Tryz.prog 116 = some 4 := by kernel_rfl
theorem sz126 : szB Tryz.prog 126 = some 4 := by kernel_rfl
theorem ul24 : Tryz.prog.underlying 24 = some (.slice (Tryz.prog.elem 24)) := by kernel_rfl
theorem ul25 : Tryz.prog.underlying 25 = some (.slice (Tryz.prog.elem 25)) := by kernel_rfl
theorem ul29 : Tryz.prog.underlying 29 = some (.slice (Tryz.prog.elem 29)) := by kernel_rfl
theorem ul35 : Tryz.prog.underlying 35 = some (.slice (Tryz.prog.elem 35)) := by kernel_rfl
theorem ul39 : Tryz.prog.underlying 39 = some (.slice (Tryz.prog.elem 39)) := by kernel_rfl
theorem ul69 : Tryz.prog.underlying 69 = some (.slice (Tryz.prog.elem 69)) := by kernel_rfl
theorem ul93 : Tryz.prog.underlying 93 = some (.slice (Tryz.prog.elem 93)) := by kernel_rfl
theorem zr34 : zeroOf Tryz.prog 34 = some [.int .i64 0, .int .i64 0, .int .i64 0, .int .i64 0, .int .i64 0, .int .i64 0] := by kernel_rfl
theorem zr37 : zeroOf Tryz.prog 37 = some [.int .i64 0, .int .i64 0, .int .i64 0, .int .i64 0, .int .i64 0, .int .i64 0, .slice none 0 0, .slice none 0 0, .slice none 0 0, .int .i64 0, .int .i64 0, .int .i64 0, .int .i64 0] := by kernel_rfl
theorem zr66 : zeroOf Tryz.prog 66 = some [.int .i64 0, .int .i64 0, .int .i64 0] := by kernel_rfl
theorem zr68 : zeroOf Tryz.prog 68 = some [.int .i64 0, .int .i64 0] := by kernel_rfl
theorem zr71 : zeroOf Tryz.prog 71 = some [.int .i64 0, .int .i64 0, .int .i64 0, .int .i64 0, .int .i64 0, .int .i64 0, .int .i64 0, .int .i64 0, .int .i64 0, .int .i64 0, .int .i64 0, .int .i64 0, .int .i64 0, .int .i64 0, .slice none 0 0, .slice none 0 0, .slice none 0 0, .slice none 0 0, .slice none 0 0] := by kernel_rfl
theorem zr76 : zeroOf Tryz.prog 76 = some [.int .i64 0, .int .i64 0, .int .i64 0, .int .i64 0, .int .i64 0, .int .i64 0, .int .i64 0, .int .i64 0] := by kernel_rfl
theorem zr116 : zeroOf Tryz.prog 116 = some [.int .i64 0, .int .i64 0, .int .i64 0, .int .i64 0] := by kernel_rfl
end Go.Proofs.YtjloiphocdaahaaGreat.Wk
