/- Facts of the program's tables that the walks lean on. -/
import Derived.Test.YtifhfodphoeeoaaGreatProg
import Derived.Test.YtifhfodphoeeoaaGreatRun
import Derived.KernelRfl
namespace Go.Proofs.YtifhfodphoeeoaaGreat.Wk
open Go Go.RowKit Sl
theorem ag23 : aggB Tryz.prog 23 = true := by kernel_rfl
theorem ag29 : aggB Tryz.prog 29 = true := by kernel_rfl
theorem ag32 : aggB Tryz.prog 32 = true := by kernel_rfl
theorem ag48 : aggB Tryz.prog 48 = true := by kernel_rfl
theorem ag50 : aggB Tryz.prog 50 = true := by kernel_rfl
theorem ag53 : aggB Tryz.prog 53 = true := by kernel_rfl
theorem ag71 : aggB Tryz.prog 71 = true := by kernel_rfl
theorem ag72 : aggB Tryz.prog 72 = true := by kernel_rfl
theorem ag75 : aggB Tryz.prog 75 = true := by kernel_rfl
theorem ag100 : aggB Tryz.prog 100 = true := by kernel_rfl
theorem ag144 : aggB Tryz.prog 144 = true := by kernel_rfl
theorem bd100 : Tryz.prog.built 100 [] = some [.int .i64 0, .int .i64 0, .int .i64 0, .int .i64 0].toArray := by kernel_rfl
theorem en26 : enterB Tryz.prog 26 = true := by kernel_rfl
theorem en29 : enterB Tryz.prog 29 = true := by kernel_rfl
theorem en30 : enterB Tryz.prog 30 = true := by kernel_rfl
theorem en35 : enterB Tryz.prog 35 = true := by kernel_rfl
theorem en36 : enterB Tryz.prog 36 = true := by kernel_rfl
theorem en37 : enterB Tryz.prog 37 = true := by kernel_rfl
theorem en41 : enterB Tryz.prog 41 = true := by kernel_rfl
theorem en42 : enterB Tryz.prog 42 = true := by kernel_rfl
theorem en60 : enterB Tryz.prog 60 = true := by kernel_rfl
theorem en62 : enterB Tryz.prog 62 = true := by kernel_rfl
theorem en65 : enterB Tryz.prog 65 = true := by kernel_rfl
theorem en67 : enterB Tryz.prog 67 = true := by kernel_rfl
theorem en72 : enterB Tryz.prog 72 = true := by kernel_rfl
theorem en75 : enterB Tryz.prog 75 = true := by kernel_rfl
theorem en78 : enterB Tryz.prog 78 = true := by kernel_rfl
theorem en84 : enterB Tryz.prog 84 = true := by kernel_rfl
theorem en87 : enterB Tryz.prog 87 = true := by kernel_rfl
theorem en93 : enterB Tryz.prog 93 = true := by kernel_rfl
theorem en95 : enterB Tryz.prog 95 = true := by kernel_rfl
theorem en96 : enterB Tryz.prog 96 = true := by kernel_rfl
theorem en102 : enterB Tryz.prog 102 = true := by kernel_rfl
theorem en104 : enterB Tryz.prog 104 = true := by kernel_rfl
theorem en107 : enterB Tryz.prog 107 = true := by kernel_rfl
theorem en114 : enterB Tryz.prog 114 = true := by kernel_rfl
theorem en115 : enterB Tryz.prog 115 = true := by kernel_rfl
theorem en116 : enterB Tryz.prog 116 = true := by kernel_rfl
theorem en117 : enterB Tryz.prog 117 = true := by kernel_rfl
theorem en118 : enterB Tryz.prog 118 = true := by kernel_rfl
theorem en119 : enterB Tryz.prog 119 = true := by kernel_rfl
theorem en120 : enterB Tryz.prog 120 = true := by kernel_rfl
theorem en121 : enterB Tryz.prog 121 = true := by kernel_rfl
theorem en122 : enterB Tryz.prog 122 = true := by kernel_rfl
theorem en123 : enterB Tryz.prog 123 = true := by kernel_rfl
theorem en124 : enterB Tryz.prog 124 = true := by kernel_rfl
theorem en125 : enterB Tryz.prog 125 = true := by kernel_rfl
theorem en127 : enterB Tryz.prog 127 = true := by kernel_rfl
theorem en130 : enterB Tryz.prog 130 = true := by kernel_rfl
theorem en132 : enterB Tryz.prog 132 = true := by kernel_rfl
theorem en133 : enterB Tryz.prog 133 = true := by kernel_rfl
theorem en134 : enterB Tryz.prog 134 = true := by kernel_rfl
theorem en137 : enterB Tryz.prog 137 = true := by kernel_rfl
theorem en140 : enterB Tryz.prog 140 = true := by kernel_rfl
theorem en141 : enterB Tryz.prog 141 = true := by kernel_rfl
theorem en142 : enterB Tryz.prog 142 = true := by kernel_rfl
theorem en143 : enterB Tryz.prog 143 = true := by kernel_rfl
theorem en146 : enterB Tryz.prog 146 = true := by kernel_rfl
theorem en148 : enterB Tryz.prog 148 = true := by kernel_rfl
theorem en154 : enterB Tryz.prog 154 = true := by kernel_rfl
theorem en155 : enterB Tryz.prog 155 = true := by kernel_rfl
theorem en156 : enterB Tryz.prog 156 = true := by kernel_rfl
theorem en157 : enterB Tryz.prog 157 = true := by kernel_rfl
theorem en158 : enterB Tryz.prog 158 = true := by kernel_rfl
theorem en159 : enterB Tryz.prog 159 = true := by kernel_rfl
theorem en160 : enterB Tryz.prog 160 = true := by kernel_rfl
theorem en161 : enterB Tryz.prog 161 = true := by kernel_rfl
theorem en162 : enterB Tryz.prog 162 = true := by kernel_rfl
theorem en163 : enterB Tryz.prog 163 = true := by kernel_rfl
theorem en177 : enterB Tryz.prog 177 = true := by kernel_rfl
theorem en179 : enterB Tryz.prog 179 = true := by kernel_rfl
theorem en180 : enterB Tryz.prog 180 = true := by kernel_rfl
theorem en186 : enterB Tryz.prog 186 = true := by kernel_rfl
theorem en187 : enterB Tryz.prog 187 = true := by kernel_rfl
theorem en188 : enterB Tryz.prog 188 = true := by kernel_rfl
theorem en190 : enterB Tryz.prog 190 = true := by kernel_rfl
theorem en191 : enterB Tryz.prog 191 = true := by kernel_rfl
theorem en198 : enterB Tryz.prog 198 = true := by kernel_rfl
theorem en199 : enterB Tryz.prog 199 = true := by kernel_rfl
theorem en200 : enterB Tryz.prog 200 = true := by kernel_rfl
theorem fo23_0 : offB Tryz.prog 23 0 = some 0 := by kernel_rfl
theorem fo23_1 : offB Tryz.prog 23 1 = some 1 := by kernel_rfl
theorem fo23_2 : offB Tryz.prog 23 2 = some 2 := by kernel_rfl
theorem fo23_3 : offB Tryz.prog 23 3 = some 3 := by kernel_rfl
theorem fo23_4 : offB Tryz.prog 23 4 = some 4 := by kernel_rfl
theorem fo23_5 : offB Tryz.prog 23 5 = some 5 := by kernel_rfl
theorem fo27_0 : offB Tryz.prog 27 0 = some 0 := by kernel_rfl
theorem fo27_1 : offB Tryz.prog 27 1 = some 6 := by kernel_rfl
theorem fo27_2 : offB Tryz.prog 27 2 = some 7 := by kernel_rfl
theorem fo27_3 : offB Tryz.prog 27 3 = some 8 := by kernel_rfl
theorem fo27_4 : offB Tryz.prog 27 4 = some 9 := by kernel_rfl
theorem fo27_5 : offB Tryz.prog 27 5 = some 10 := by kernel_rfl
theorem fo27_6 : offB Tryz.prog 27 6 = some 11 := by kernel_rfl
theorem fo27_7 : offB Tryz.prog 27 7 = some 12 := by kernel_rfl
theorem fo29_0 : offB Tryz.prog 29 0 = some 0 := by kernel_rfl
theorem fo29_1 : offB Tryz.prog 29 1 = some 1 := by kernel_rfl
theorem fo29_2 : offB Tryz.prog 29 2 = some 2 := by kernel_rfl
theorem fo29_3 : offB Tryz.prog 29 3 = some 3 := by kernel_rfl
theorem fo29_4 : offB Tryz.prog 29 4 = some 4 := by kernel_rfl
theorem fo29_5 : offB Tryz.prog 29 5 = some 5 := by kernel_rfl
theorem fo32_0 : offB Tryz.prog 32 0 = some 0 := by kernel_rfl
theorem fo32_1 : offB Tryz.prog 32 1 = some 6 := by kernel_rfl
theorem fo32_2 : offB Tryz.prog 32 2 = some 7 := by kernel_rfl
theorem fo32_3 : offB Tryz.prog 32 3 = some 8 := by kernel_rfl
theorem fo32_4 : offB Tryz.prog 32 4 = some 9 := by kernel_rfl
theorem fo32_5 : offB Tryz.prog 32 5 = some 10 := by kernel_rfl
theorem fo32_6 : offB Tryz.prog 32 6 = some 11 := by kernel_rfl
theorem fo32_7 : offB Tryz.prog 32 7 = some 12 := by kernel_rfl
theorem fo48_0 : offB Tryz.prog 48 0 = some 0 := by kernel_rfl
theorem fo48_1 : offB Tryz.prog 48 1 = some 1 := by kernel_rfl
theorem fo48_2 : offB Tryz.prog 48 2 = some 2 := by kernel_rfl
theorem fo50_0 : offB Tryz.prog 50 0 = some 0 := by kernel_rfl
theorem fo50_1 : offB Tryz.prog 50 1 = some 1 := by kernel_rfl
theorem fo53_0 : offB Tryz.prog 53 0 = some 0 := by kernel_rfl
theorem fo53_1 : offB Tryz.prog 53 1 = some 1 := by kernel_rfl
theorem fo53_2 : offB Tryz.prog 53 2 = some 4 := by kernel_rfl
theorem fo53_3 : offB Tryz.prog 53 3 = some 6 := by kernel_rfl
theorem fo53_4 : offB Tryz.prog 53 4 = some 7 := by kernel_rfl
theorem fo53_5 : offB Tryz.prog 53 5 = some 8 := by kernel_rfl
theorem fo53_6 : offB Tryz.prog 53 6 = some 9 := by kernel_rfl
theorem fo53_7 : offB Tryz.prog 53 7 = some 10 := by kernel_rfl
theorem fo53_8 : offB Tryz.prog 53 8 = some 11 := by kernel_rfl
theorem fo53_9 : offB Tryz.prog 53 9 = some 12 := by kernel_rfl
theorem fo53_10 : offB Tryz.prog 53 10 = some 13 := by kernel_rfl
theorem fo53_11 : offB Tryz.prog 53 11 = some 14 := by kernel_rfl
theorem fo53_12 : offB Tryz.prog 53 12 = some 15 := by kernel_rfl
theorem fo53_13 : offB Tryz.prog 53 13 = some 16 := by kernel_rfl
theorem fo53_14 : offB Tryz.prog 53 14 = some 17 := by kernel_rfl
theorem fo53_15 : offB Tryz.prog 53 15 = some 18 := by kernel_rfl
theorem fo71_0 : offB Tryz.prog 71 0 = some 0 := by kernel_rfl
theorem fo71_1 : offB Tryz.prog 71 1 = some 1 := by kernel_rfl
theorem fo71_2 : offB Tryz.prog 71 2 = some 2 := by kernel_rfl
theorem fo72_0 : offB Tryz.prog 72 0 = some 0 := by kernel_rfl
theorem fo72_1 : offB Tryz.prog 72 1 = some 1 := by kernel_rfl
theorem fo75_0 : offB Tryz.prog 75 0 = some 0 := by kernel_rfl
theorem fo75_1 : offB Tryz.prog 75 1 = some 1 := by kernel_rfl
theorem fo75_2 : offB Tryz.prog 75 2 = some 4 := by kernel_rfl
theorem fo75_3 : offB Tryz.prog 75 3 = some 6 := by kernel_rfl
theorem fo75_4 : offB Tryz.prog 75 4 = some 7 := by kernel_rfl
theorem fo75_5 : offB Tryz.prog 75 5 = some 8 := by kernel_rfl
theorem fo75_6 : offB Tryz.prog 75 6 = some 9 := by kernel_rfl
theorem fo75_7 : offB Tryz.prog 75 7 = some 10 := by kernel_rfl
theorem fo75_8 : offB Tryz.prog 75 8 = some 11 := by kernel_rfl
theorem fo75_9 : offB Tryz.prog 75 9 = some 12 := by kernel_rfl
theorem fo75_10 : offB Tryz.prog 75 10 = some 13 := by kernel_rfl
theorem fo75_11 : offB Tryz.prog 75 11 = some 14 := by kernel_rfl
theorem fo75_12 : offB Tryz.prog 75 12 = some 15 := by kernel_rfl
theorem fo75_13 : offB Tryz.prog 75 13 = some 16 := by kernel_rfl
theorem fo75_14 : offB Tryz.prog 75 14 = some 17 := by kernel_rfl
theorem fo75_15 : offB Tryz.prog 75 15 = some 18 := by kernel_rfl
theorem fo100_0 : offB Tryz.prog 100 0 = some 0 := by kernel_rfl
theorem fo100_1 : offB Tryz.prog 100 1 = some 1 := by kernel_rfl
theorem fo100_2 : offB Tryz.prog 100 2 = some 2 := by kernel_rfl
theorem fo100_3 : offB Tryz.prog 100 3 = some 3 := by kernel_rfl
theorem fo144_0 : offB Tryz.prog 144 0 = some 0 := by kernel_rfl
theorem fo144_1 : offB Tryz.prog 144 1 = some 1 := by kernel_rfl
theorem fo144_2 : offB Tryz.prog 144 2 = some 2 := by kernel_rfl
theorem fo144_3 : offB Tryz.prog 144 3 = some 3 := by kernel_rfl
theorem mk24 : mkB Tryz.prog 24 = some ([.int .i64 0], 1, 8) := by kernel_rfl
theorem mk30 : mkB Tryz.prog 30 = some ([.int .i64 0, .int .i64 0, .int .i64 0, .int .i64 0, .int .i64 0, .int .i64 0, .int .i64 0, .int .i64 0, .int .i64 0, .int .i64 0, .int .i64 0, .int .i64 0, .int .i64 0, .int .i64 0, .slice none 0 0, .slice none 0 0, .slice none 0 0, .slice none 0 0, .slice none 0 0], 19, 232) := by kernel_rfl
theorem mk51 : mkB Tryz.prog 51 = some ([.int .i64 0, .int .i64 0, .int .i64 0, .int .i64 0], 4, 32) := by kernel_rfl
theorem mk157 : mkB Tryz.prog 157 = some ([.string ⟨#[]⟩], 1, 16) := by kernel_rfl
theorem sc3 : scalB Tryz.prog 3 = true := by kernel_rfl
theorem sc9 : scalB Tryz.prog 9 = true := by kernel_rfl
theorem sc24 : scalB Tryz.prog 24 = true := by kernel_rfl
theorem sc25 : scalB Tryz.prog 25 = true := by kernel_rfl
theorem sc30 : scalB Tryz.prog 30 = true := by kernel_rfl
theorem sc51 : scalB Tryz.prog 51 = true := by kernel_rfl
theorem sc73 : scalB Tryz.prog 73 = true := by kernel_rfl
theorem sl24 : slB Tryz.prog 24 = some (1, 8) := by kernel_rfl
theorem sl25 : slB Tryz.prog 25 = some (19, 232) := by kernel_rfl
theorem sl30 : slB Tryz.prog 30 = some (19, 232) := by kernel_rfl
theorem sl51 : slB Tryz.prog 51 = some (4, 32) := by kernel_rfl
theorem sl73 : slB Tryz.prog 73 = some (4, 32) := by kernel_rfl
theorem sl157 : slB Tryz.prog 157 = some (1, 16) := by kernel_rfl
theorem sz3 : szB Tryz.prog 3 = some 1 := by kernel_rfl
theorem sz23 : szB Tryz.prog 23 = some 6 := by kernel_rfl
theorem sz24 : szB Tryz.prog 24 = some 1 := by kernel_rfl
theorem sz29 : szB Tryz.prog 29 = some 6 := by kernel_rfl
theorem sz30 : szB Tryz.prog 30 = some 1 := by kernel_rfl
theorem sz32 : szB Tryz.prog 32 = some 13 := by kernel_rfl
theorem sz48 : szB Tryz.prog 48 = some 3 := by kernel_rfl
theorem sz50 : szB Tryz.prog 50 = some 2 := by kernel_rfl
theorem sz51 : szB Tryz.prog 51 = some 1 := by kernel_rfl
theorem sz53 : szB Tryz.prog 53 = some 19 := by kernel_rfl
theorem sz71 : szB Tryz.prog 71 = some 3 := by kernel_rfl
theorem sz72 : szB Tryz.prog 72 = some 2 := by kernel_rfl
theorem sz75 : szB Tryz.prog 75 = some 19 := by kernel_rfl
theorem sz100 : szB Tryz.prog 100 = some 4 := by kernel_rfl
theorem sz144 : szB Tryz.prog 144 = some 4 := by kernel_rfl
theorem ul24 : Tryz.prog.underlying 24 = some (.slice (Tryz.prog.elem 24)) := by kernel_rfl
theorem ul25 : Tryz.prog.underlying 25 = some (.slice (Tryz.prog.elem 25)) := by kernel_rfl
theorem ul30 : Tryz.prog.underlying 30 = some (.slice (Tryz.prog.elem 30)) := by kernel_rfl
theorem ul51 : Tryz.prog.underlying 51 = some (.slice (Tryz.prog.elem 51)) := by kernel_rfl
theorem ul73 : Tryz.prog.underlying 73 = some (.slice (Tryz.prog.elem 73)) := by kernel_rfl
theorem zr29 : zeroOf Tryz.prog 29 = some [.int .i64 0, .int .i64 0, .int .i64 0, .int .i64 0, .int .i64 0, .int .i64 0] := by kernel_rfl
theorem zr32 : zeroOf Tryz.prog 32 = some [.int .i64 0, .int .i64 0, .int .i64 0, .int .i64 0, .int .i64 0, .int .i64 0, .slice none 0 0, .slice none 0 0, .slice none 0 0, .int .i64 0, .int .i64 0, .int .i64 0, .int .i64 0] := by kernel_rfl
theorem zr48 : zeroOf Tryz.prog 48 = some [.int .i64 0, .int .i64 0, .int .i64 0] := by kernel_rfl
theorem zr50 : zeroOf Tryz.prog 50 = some [.int .i64 0, .int .i64 0] := by kernel_rfl
theorem zr53 : zeroOf Tryz.prog 53 = some [.int .i64 0, .int .i64 0, .int .i64 0, .int .i64 0, .int .i64 0, .int .i64 0, .int .i64 0, .int .i64 0, .int .i64 0, .int .i64 0, .int .i64 0, .int .i64 0, .int .i64 0, .int .i64 0, .slice none 0 0, .slice none 0 0, .slice none 0 0, .slice none 0 0, .slice none 0 0] := by kernel_rfl
theorem zr100 : zeroOf Tryz.prog 100 = some [.int .i64 0, .int .i64 0, .int .i64 0, .int .i64 0] := by kernel_rfl
end Go.Proofs.YtifhfodphoeeoaaGreat.Wk
