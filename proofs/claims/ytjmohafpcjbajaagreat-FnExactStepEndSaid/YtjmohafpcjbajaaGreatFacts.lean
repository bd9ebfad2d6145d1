/- Facts of the program's tables that the walks lean on. -/
import Derived.Test.YtjmohafpcjbajaaGreatProg
import Derived.Test.YtjmohafpcjbajaaGreatRun
import Derived.KernelRfl
namespace Go.Proofs.YtjmohafpcjbajaaGreat.Wk
open Go Go.RowKit Sl
theorem ag23 : aggB Tryz.prog 23 = true := by kernel_rfl
theorem ag29 : aggB Tryz.prog 29 = true := by kernel_rfl
theorem ag32 : aggB Tryz.prog 32 = true := by kernel_rfl
theorem ag44 : aggB Tryz.prog 44 = true := by kernel_rfl
theorem ag46 : aggB Tryz.prog 46 = true := by kernel_rfl
theorem ag49 : aggB Tryz.prog 49 = true := by kernel_rfl
theorem ag71 : aggB Tryz.prog 71 = true := by kernel_rfl
theorem ag72 : aggB Tryz.prog 72 = true := by kernel_rfl
theorem ag75 : aggB Tryz.prog 75 = true := by kernel_rfl
theorem ag106 : aggB Tryz.prog 106 = true := by kernel_rfl
theorem ag114 : aggB Tryz.prog 114 = true := by kernel_rfl
theorem bd106 : Tryz.prog.built 106 [] = some [.int .i64 0, .int .i64 0, .int .i64 0, .int .i64 0].toArray := by kernel_rfl
theorem en20 : enterB Tryz.prog 20 = true := by kernel_rfl
theorem en21 : enterB Tryz.prog 21 = true := by kernel_rfl
theorem en27 : enterB Tryz.prog 27 = true := by kernel_rfl
theorem en28 : enterB Tryz.prog 28 = true := by kernel_rfl
theorem en29 : enterB Tryz.prog 29 = true := by kernel_rfl
theorem en36 : enterB Tryz.prog 36 = true := by kernel_rfl
theorem en37 : enterB Tryz.prog 37 = true := by kernel_rfl
theorem en38 : enterB Tryz.prog 38 = true := by kernel_rfl
theorem en55 : enterB Tryz.prog 55 = true := by kernel_rfl
theorem en57 : enterB Tryz.prog 57 = true := by kernel_rfl
theorem en58 : enterB Tryz.prog 58 = true := by kernel_rfl
theorem en59 : enterB Tryz.prog 59 = true := by kernel_rfl
theorem en61 : enterB Tryz.prog 61 = true := by kernel_rfl
theorem en64 : enterB Tryz.prog 64 = true := by kernel_rfl
theorem en65 : enterB Tryz.prog 65 = true := by kernel_rfl
theorem en67 : enterB Tryz.prog 67 = true := by kernel_rfl
theorem en72 : enterB Tryz.prog 72 = true := by kernel_rfl
theorem en76 : enterB Tryz.prog 76 = true := by kernel_rfl
theorem en82 : enterB Tryz.prog 82 = true := by kernel_rfl
theorem en84 : enterB Tryz.prog 84 = true := by kernel_rfl
theorem en85 : enterB Tryz.prog 85 = true := by kernel_rfl
theorem en91 : enterB Tryz.prog 91 = true := by kernel_rfl
theorem en92 : enterB Tryz.prog 92 = true := by kernel_rfl
theorem en93 : enterB Tryz.prog 93 = true := by kernel_rfl
theorem en94 : enterB Tryz.prog 94 = true := by kernel_rfl
theorem en95 : enterB Tryz.prog 95 = true := by kernel_rfl
theorem en96 : enterB Tryz.prog 96 = true := by kernel_rfl
theorem en97 : enterB Tryz.prog 97 = true := by kernel_rfl
theorem en98 : enterB Tryz.prog 98 = true := by kernel_rfl
theorem en99 : enterB Tryz.prog 99 = true := by kernel_rfl
theorem en100 : enterB Tryz.prog 100 = true := by kernel_rfl
theorem en103 : enterB Tryz.prog 103 = true := by kernel_rfl
theorem en104 : enterB Tryz.prog 104 = true := by kernel_rfl
theorem en105 : enterB Tryz.prog 105 = true := by kernel_rfl
theorem en106 : enterB Tryz.prog 106 = true := by kernel_rfl
theorem en108 : enterB Tryz.prog 108 = true := by kernel_rfl
theorem en109 : enterB Tryz.prog 109 = true := by kernel_rfl
theorem en113 : enterB Tryz.prog 113 = true := by kernel_rfl
theorem en114 : enterB Tryz.prog 114 = true := by kernel_rfl
theorem en115 : enterB Tryz.prog 115 = true := by kernel_rfl
theorem en116 : enterB Tryz.prog 116 = true := by kernel_rfl
theorem en117 : enterB Tryz.prog 117 = true := by kernel_rfl
theorem en118 : enterB Tryz.prog 118 = true := by kernel_rfl
theorem en119 : enterB Tryz.prog 119 = true := by kernel_rfl
theorem en120 : enterB Tryz.prog 120 = true := by kernel_rfl
theorem en122 : enterB Tryz.prog 122 = true := by kernel_rfl
theorem en123 : enterB Tryz.prog 123 = true := by kernel_rfl
theorem en124 : enterB Tryz.prog 124 = true := by kernel_rfl
theorem en125 : enterB Tryz.prog 125 = true := by kernel_rfl
theorem en126 : enterB Tryz.prog 126 = true := by kernel_rfl
theorem en127 : enterB Tryz.prog 127 = true := by kernel_rfl
theorem en128 : enterB Tryz.prog 128 = true := by kernel_rfl
theorem en129 : enterB Tryz.prog 129 = true := by kernel_rfl
theorem en130 : enterB Tryz.prog 130 = true := by kernel_rfl
theorem en131 : enterB Tryz.prog 131 = true := by kernel_rfl
theorem en133 : enterB Tryz.prog 133 = true := by kernel_rfl
theorem en134 : enterB Tryz.prog 134 = true := by kernel_rfl
theorem en135 : enterB Tryz.prog 135 = true := by kernel_rfl
theorem en136 : enterB Tryz.prog 136 = true := by kernel_rfl
theorem en137 : enterB Tryz.prog 137 = true := by kernel_rfl
theorem en138 : enterB Tryz.prog 138 = true := by kernel_rfl
theorem en139 : enterB Tryz.prog 139 = true := by kernel_rfl
theorem en140 : enterB Tryz.prog 140 = true := by kernel_rfl
theorem en143 : enterB Tryz.prog 143 = true := by kernel_rfl
theorem en144 : enterB Tryz.prog 144 = true := by kernel_rfl
theorem en146 : enterB Tryz.prog 146 = true := by kernel_rfl
theorem en147 : enterB Tryz.prog 147 = true := by kernel_rfl
theorem en148 : enterB Tryz.prog 148 = true := by kernel_rfl
theorem fo23_0 : offB Tryz.prog 23 0 = some 0 := by kernel_rfl
theorem fo23_1 : offB Tryz.prog 23 1 = some 1 := by kernel_rfl
theorem fo23_2 : offB Tryz.prog 23 2 = some 2 := by kernel_rfl
theorem fo23_3 : offB Tryz.prog 23 3 = some 3 := by kernel_rfl
theorem fo23_4 : offB Tryz.prog 23 4 = some 4 := by kernel_rfl
theorem fo23_5 : offB Tryz.prog 23 5 = some 5 := by kernel_rfl
theorem fo27_0 : offB Tryz.prog 27 0 = some 0 := by kernel_rfl
theorem fo27_1 : offB Tryz.prog 27 1 = some 6 := by kernel_rfl
theorem fo27_2 : offB Tryz.prog 27 2 = some 7 := by kernel_rfl
theorem fo27_3 : offB Tryz.prog 27 3 = some 8 := by kernel_rfl
theorem fo27_4 : offB Tryz.prog 27 4 = some 9 := by kernel_rfl
theorem fo27_5 : offB Tryz.prog 27 5 = some 10 := by kernel_rfl
theorem fo27_6 : offB Tryz.prog 27 6 = some 11 := by kernel_rfl
theorem fo27_7 : offB Tryz.prog 27 7 = some 12 := by kernel_rfl
theorem fo29_0 : offB Tryz.prog 29 0 = some 0 := by kernel_rfl
theorem fo29_1 : offB Tryz.prog 29 1 = some 1 := by kernel_rfl
theorem fo29_2 : offB Tryz.prog 29 2 = some 2 := by kernel_rfl
theorem fo29_3 : offB Tryz.prog 29 3 = some 3 := by kernel_rfl
theorem fo29_4 : offB Tryz.prog 29 4 = some 4 := by kernel_rfl
theorem fo29_5 : offB Tryz.prog 29 5 = some 5 := by kernel_rfl
theorem fo32_0 : offB Tryz.prog 32 0 = some 0 := by kernel_rfl
theorem fo32_1 : offB Tryz.prog 32 1 = some 6 := by kernel_rfl
theorem fo32_2 : offB Tryz.prog 32 2 = some 7 := by kernel_rfl
theorem fo32_3 : offB Tryz.prog 32 3 = some 8 := by kernel_rfl
theorem fo32_4 : offB Tryz.prog 32 4 = some 9 := by kernel_rfl
theorem fo32_5 : offB Tryz.prog 32 5 = some 10 := by kernel_rfl
theorem fo32_6 : offB Tryz.prog 32 6 = some 11 := by kernel_rfl
theorem fo32_7 : offB Tryz.prog 32 7 = some 12 := by kernel_rfl
theorem fo44_0 : offB Tryz.prog 44 0 = some 0 := by kernel_rfl
theorem fo44_1 : offB Tryz.prog 44 1 = some 1 := by kernel_rfl
theorem fo44_2 : offB Tryz.prog 44 2 = some 2 := by kernel_rfl
theorem fo46_0 : offB Tryz.prog 46 0 = some 0 := by kernel_rfl
theorem fo46_1 : offB Tryz.prog 46 1 = some 1 := by kernel_rfl
theorem fo49_0 : offB Tryz.prog 49 0 = some 0 := by kernel_rfl
theorem fo49_1 : offB Tryz.prog 49 1 = some 1 := by kernel_rfl
theorem fo49_2 : offB Tryz.prog 49 2 = some 4 := by kernel_rfl
theorem fo49_3 : offB Tryz.prog 49 3 = some 6 := by kernel_rfl
theorem fo49_4 : offB Tryz.prog 49 4 = some 7 := by kernel_rfl
theorem fo49_5 : offB Tryz.prog 49 5 = some 8 := by kernel_rfl
theorem fo49_6 : offB Tryz.prog 49 6 = some 9 := by kernel_rfl
theorem fo49_7 : offB Tryz.prog 49 7 = some 10 := by kernel_rfl
theorem fo49_8 : offB Tryz.prog 49 8 = some 11 := by kernel_rfl
theorem fo49_9 : offB Tryz.prog 49 9 = some 12 := by kernel_rfl
theorem fo49_10 : offB Tryz.prog 49 10 = some 13 := by kernel_rfl
theorem fo49_11 : offB Tryz.prog 49 11 = some 14 := by kernel_rfl
theorem fo49_12 : offB Tryz.prog 49 12 = some 15 := by kernel_rfl
theorem fo49_13 : offB Tryz.prog 49 13 = some 16 := by kernel_rfl
theorem fo49_14 : offB Tryz.prog 49 14 = some 17 := by kernel_rfl
theorem fo49_15 : offB Tryz.prog 49 15 = some 18 := by kernel_rfl
theorem fo71_0 : offB Tryz.prog 71 0 = some 0 := by kernel_rfl
theorem fo71_1 : offB Tryz.prog 71 1 = some 1 := by kernel_rfl
theorem fo71_2 : offB Tryz.prog 71 2 = some 2 := by kernel_rfl
theorem fo72_0 : offB Tryz.prog 72 0 = some 0 := by kernel_rfl
theorem fo72_1 : offB Tryz.prog 72 1 = some 1 := by kernel_rfl
theorem fo75_0 : offB Tryz.prog 75 0 = some 0 := by kernel_rfl
theorem fo75_1 : offB Tryz.prog 75 1 = some 1 := by kernel_rfl
theorem fo75_2 : offB Tryz.prog 75 2 = some 4 := by kernel_rfl
theorem fo75_3 : offB Tryz.prog 75 3 = some 6 := by kernel_rfl
theorem fo75_4 : offB Tryz.prog 75 4 = some 7 := by kernel_rfl
theorem fo75_5 : offB Tryz.prog 75 5 = some 8 := by kernel_rfl
theorem fo75_6 : offB Tryz.prog 75 6 = some 9 := by kernel_rfl
theorem fo75_7 : offB Tryz.prog 75 7 = some 10 := by kernel_rfl
theorem fo75_8 : offB Tryz.prog 75 8 = some 11 := by kernel_rfl
theorem fo75_9 : offB Tryz.prog 75 9 = some 12 := by kernel_rfl
theorem fo75_10 : offB Tryz.prog 75 10 = some 13 := by kernel_rfl
theorem fo75_11 : offB Tryz.prog 75 11 = some 14 := by kernel_rfl
theorem fo75_12 : offB Tryz.prog 75 12 = some 15 := by kernel_rfl
theorem fo75_13 : offB Tryz.prog 75 13 = some 16 := by kernel_rfl
theorem fo75_14 : offB Tryz.prog 75 14 = some 17 := by kernel_rfl
theorem fo75_15 : offB Tryz.prog 75 15 = some 18 := by kernel_rfl
theorem fo106_0 : offB Tryz.prog 106 0 = some 0 := by kernel_rfl
theorem fo106_1 : offB Tryz.prog 106 1 = some 1 := by kernel_rfl
theorem fo106_2 : offB Tryz.prog 106 2 = some 2 := by kernel_rfl
theorem fo106_3 : offB Tryz.prog 106 3 = some 3 := by kernel_rfl
theorem fo114_0 : offB Tryz.prog 114 0 = some 0 := by kernel_rfl
theorem fo114_1 : offB Tryz.prog 114 1 = some 1 := by kernel_rfl
theorem fo114_2 : offB Tryz.prog 114 2 = some 2 := by kernel_rfl
theorem fo114_3 : offB Tryz.prog 114 3 = some 3 := by kernel_rfl
theorem mk24 : mkB Tryz.prog 24 = some ([.int .i64 0], 1, 8) := by kernel_rfl
theorem mk30 : mkB Tryz.prog 30 = some ([.int .i64 0, .int .i64 0, .int .i64 0, .int .i64 0, .int .i64 0, .int .i64 0, .int .i64 0, .int .i64 0, .int .i64 0, .int .i64 0, .int .i64 0, .int .i64 0, .int .i64 0, .int .i64 0, .slice none 0 0, .slice none 0 0, .slice none 0 0, .slice none 0 0, .slice none 0 0], 19, 232) := by kernel_rfl
theorem mk47 : mkB Tryz.prog 47 = some ([.int .i64 0, .int .i64 0, .int .i64 0, .int .i64 0], 4, 32) := by kernel_rfl
theorem mk122 : mkB Tryz.prog 122 = some ([.string ⟨#[]⟩], 1, 16) := by kernel_rfl
theorem sc3 : scalB Tryz.prog 3 = true := by kernel_rfl
theorem sc9 : scalB Tryz.prog 9 = true := by kernel_rfl
theorem sc24 : scalB Tryz.prog 24 = true := by kernel_rfl
theorem sc25 : scalB Tryz.prog 25 = true := by kernel_rfl
theorem sc30 : scalB Tryz.prog 30 = true := by kernel_rfl
theorem sc47 : scalB Tryz.prog 47 = true := by kernel_rfl
theorem sc73 : scalB Tryz.prog 73 = true := by kernel_rfl
theorem sl24 : slB Tryz.prog 24 = some (1, 8) := by kernel_rfl
theorem sl25 : slB Tryz.prog 25 = some (19, 232) := by kernel_rfl
theorem sl30 : slB Tryz.prog 30 = some (19, 232) := by kernel_rfl
theorem sl47 : slB Tryz.prog 47 = some (4, 32) := by kernel_rfl
theorem sl73 : slB Tryz.prog 73 = some (4, 32) := by kernel_rfl
theorem sl122 : slB Tryz.prog 122 = some (1, 16) := by kernel_rfl
theorem sz3 : szB Tryz.prog 3 = some 1 := by kernel_rfl
theorem sz23 : szB Tryz.prog 23 = some 6 := by kernel_rfl
theorem sz24 : szB Tryz.prog 24 = some 1 := by kernel_rfl
theorem sz29 : szB Tryz.prog 29 = some 6 := by kernel_rfl
theorem sz30 : szB Tryz.prog 30 = some 1 := by kernel_rfl
theorem sz32 : szB Tryz.prog 32 = some 13 := by kernel_rfl
theorem sz44 : szB Tryz.prog 44 = some 3 := by kernel_rfl
theorem sz46 : szB Tryz.prog 46 = some 2 := by kernel_rfl
theorem sz47 : szB Tryz.prog 47 = some 1 := by kernel_rfl
theorem sz49 : szB Tryz.prog 49 = some 19 := by kernel_rfl
theorem sz71 : szB Tryz.prog 71 = some 3 := by kernel_rfl
theorem sz72 : szB Tryz.prog 72 = some 2 := by kernel_rfl
theorem sz75 : szB Tryz.prog 75 = some 19 := by kernel_rfl
theorem sz106 : szB Tryz.prog 106 = some 4 := by kernel_rfl
theorem sz114 : szB Tryz.prog 114 = some 4 := by kernel_rfl
theorem ul24 : Tryz.prog.underlying 24 = some (.slice (Tryz.prog.elem 24)) := by kernel_rfl
theorem ul25 : Tryz.prog.underlying 25 = some (.slice (Tryz.prog.elem 25)) := by kernel_rfl
theorem ul30 : Tryz.prog.underlying 30 = some (.slice (Tryz.prog.elem 30)) := by kernel_rfl
theorem ul47 : Tryz.prog.underlying 47 = some (.slice (Tryz.prog.elem 47)) := by kernel_rfl
theorem ul73 : Tryz.prog.underlying 73 = some (.slice (Tryz.prog.elem 73)) := by kernel_rfl
theorem zr29 : zeroOf Tryz.prog 29 = some [.int .i64 0, .int .i64 0, .int .i64 0, .int .i64 0, .int .i64 0, .int .i64 0] := by kernel_rfl
theorem zr32 : zeroOf Tryz.prog 32 = some [.int .i64 0, .int .i64 0, .int .i64 0, .int .i64 0, .int .i64 0, .int .i64 0, .slice none 0 0, .slice none 0 0, .slice none 0 0, .int .i64 0, .int .i64 0, .int .i64 0, .int .i64 0] := by kernel_rfl
theorem zr44 : zeroOf Tryz.prog 44 = some [.int .i64 0, .int .i64 0, .int .i64 0] := by kernel_rfl
theorem zr46 : zeroOf Tryz.prog 46 = some [.int .i64 0, .int .i64 0] := by kernel_rfl
theorem zr49 : zeroOf Tryz.prog 49 = some [.int .i64 0, .int .i64 0, .int .i64 0, .int .i64 0, .int .i64 0, .int .i64 0, .int .i64 0, .int .i64 0, .int .i64 0, .int .i64 0, .int .i64 0, .int .i64 0, .int .i64 0, .int .i64 0, .slice none 0 0, .slice none 0 0, .slice none 0 0, .slice none 0 0, .slice none 0 0] := by kernel_rfl
theorem zr106 : zeroOf Tryz.prog 106 = some [.int .i64 0, .int .i64 0, .int .i64 0, .int .i64 0] := by kernel_rfl
end Go.Proofs.YtjmohafpcjbajaaGreat.Wk
