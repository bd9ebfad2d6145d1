/- Facts of the program's tables that the walks lean on. -/
import Derived.Test.YtjloiphocdaahaaProg
import Derived.Test.YtjloiphocdaahaaRun
import Derived.KernelRfl
namespace Go.Proofs.Ytjloiphocdaahaa.Wk
open Go Go.RowKit Sl
theorem ag23 : aggB Try.prog 23 = true := by kernel_rfl
theorem ag34 : aggB Try.prog 34 = true := by kernel_rfl
theorem ag37 : aggB Try.prog 37 = true := by kernel_rfl
theorem ag71 : aggB Try.prog 71 = true := by kernel_rfl
theorem ag73 : aggB Try.prog 73 = true := by kernel_rfl
theorem ag75 : aggB Try.prog 75 = true := by kernel_rfl
theorem ag112 : aggB Try.prog 112 = true := by kernel_rfl
theorem ag114 : aggB Try.prog 114 = true := by kernel_rfl
theorem ag115 : aggB Try.prog 115 = true := by kernel_rfl
theorem ag117 : aggB Try.prog 117 = true := by kernel_rfl
theorem ag128 : aggB Try.prog 128 = true := by kernel_rfl
theorem ag143 : aggB Try.prog 143 = true := by kernel_rfl
theorem ag156 : aggB Try.prog 156 = true := by kernel_rfl
theorem bd143 : Try.prog.built 143 [] = some [.int .i64 0, .int .i64 0, .int .i64 0, .int .i64 0].toArray := by kernel_rfl
theorem en19 : enterB Try.prog 19 = true := by kernel_rfl
theorem en35 : enterB Try.prog 35 = true := by kernel_rfl
theorem en47 : enterB Try.prog 47 = true := by kernel_rfl
theorem en51 : enterB Try.prog 51 = true := by kernel_rfl
theorem en60 : enterB Try.prog 60 = true := by kernel_rfl
theorem en73 : enterB Try.prog 73 = true := by kernel_rfl
theorem en75 : enterB Try.prog 75 = true := by kernel_rfl
theorem en79 : enterB Try.prog 79 = true := by kernel_rfl
theorem en80 : enterB Try.prog 80 = true := by kernel_rfl
theorem en81 : enterB Try.prog 81 = true := by kernel_rfl
theorem en82 : enterB Try.prog 82 = true := by kernel_rfl
theorem en83 : enterB Try.prog 83 = true := by kernel_rfl
theorem en89 : enterB Try.prog 89 = true := by kernel_rfl
theorem en90 : enterB Try.prog 90 = true := by kernel_rfl
theorem en95 : enterB Try.prog 95 = true := by kernel_rfl
theorem en97 : enterB Try.prog 97 = true := by kernel_rfl
theorem en100 : enterB Try.prog 100 = true := by kernel_rfl
theorem en102 : enterB Try.prog 102 = true := by kernel_rfl
theorem en103 : enterB Try.prog 103 = true := by kernel_rfl
theorem en104 : enterB Try.prog 104 = true := by kernel_rfl
theorem en110 : enterB Try.prog 110 = true := by kernel_rfl
theorem en113 : enterB Try.prog 113 = true := by kernel_rfl
theorem en114 : enterB Try.prog 114 = true := by kernel_rfl
theorem en115 : enterB Try.prog 115 = true := by kernel_rfl
theorem en116 : enterB Try.prog 116 = true := by kernel_rfl
theorem en117 : enterB Try.prog 117 = true := by kernel_rfl
theorem en118 : enterB Try.prog 118 = true := by kernel_rfl
theorem en119 : enterB Try.prog 119 = true := by kernel_rfl
theorem en120 : enterB Try.prog 120 = true := by kernel_rfl
theorem en121 : enterB Try.prog 121 = true := by kernel_rfl
theorem en122 : enterB Try.prog 122 = true := by kernel_rfl
theorem en123 : enterB Try.prog 123 = true := by kernel_rfl
theorem en124 : enterB Try.prog 124 = true := by kernel_rfl
theorem en126 : enterB Try.prog 126 = true := by kernel_rfl
theorem en127 : enterB Try.prog 127 = true := by kernel_rfl
theorem en128 : enterB Try.prog 128 = true := by kernel_rfl
theorem en129 : enterB Try.prog 129 = true := by kernel_rfl
theorem en130 : enterB Try.prog 130 = true := by kernel_rfl
theorem en131 : enterB Try.prog 131 = true := by kernel_rfl
theorem en132 : enterB Try.prog 132 = true := by kernel_rfl
theorem en133 : enterB Try.prog 133 = true := by kernel_rfl
theorem en135 : enterB Try.prog 135 = true := by kernel_rfl
theorem en136 : enterB Try.prog 136 = true := by kernel_rfl
theorem en140 : enterB Try.prog 140 = true := by kernel_rfl
theorem en142 : enterB Try.prog 142 = true := by kernel_rfl
theorem en146 : enterB Try.prog 146 = true := by kernel_rfl
theorem en147 : enterB Try.prog 147 = true := by kernel_rfl
theorem en148 : enterB Try.prog 148 = true := by kernel_rfl
theorem en149 : enterB Try.prog 149 = true := by kernel_rfl
theorem en150 : enterB Try.prog 150 = true := by kernel_rfl
theorem en151 : enterB Try.prog 151 = true := by kernel_rfl
theorem en152 : enterB Try.prog 152 = true := by kernel_rfl
theorem en153 : enterB Try.prog 153 = true := by kernel_rfl
theorem en156 : enterB Try.prog 156 = true := by kernel_rfl
theorem en157 : enterB Try.prog 157 = true := by kernel_rfl
theorem en158 : enterB Try.prog 158 = true := by kernel_rfl
theorem en159 : enterB Try.prog 159 = true := by kernel_rfl
theorem en160 : enterB Try.prog 160 = true := by kernel_rfl
theorem en161 : enterB Try.prog 161 = true := by kernel_rfl
theorem en162 : enterB Try.prog 162 = true := by kernel_rfl
theorem en163 : enterB Try.prog 163 = true := by kernel_rfl
theorem en164 : enterB Try.prog 164 = true := by kernel_rfl
theorem en165 : enterB Try.prog 165 = true := by kernel_rfl
theorem en167 : enterB Try.prog 167 = true := by kernel_rfl
theorem en168 : enterB Try.prog 168 = true := by kernel_rfl
theorem en169 : enterB Try.prog 169 = true := by kernel_rfl
theorem en170 : enterB Try.prog 170 = true := by kernel_rfl
theorem en171 : enterB Try.prog 171 = true := by kernel_rfl
theorem en172 : enterB Try.prog 172 = true := by kernel_rfl
theorem en173 : enterB Try.prog 173 = true := by kernel_rfl
theorem fo23_0 : offB Try.prog 23 0 = some 0 := by kernel_rfl
theorem fo23_1 : offB Try.prog 23 1 = some 1 := by kernel_rfl
theorem fo23_2 : offB Try.prog 23 2 = some 2 := by kernel_rfl
theorem fo23_3 : offB Try.prog 23 3 = some 3 := by kernel_rfl
theorem fo23_4 : offB Try.prog 23 4 = some 4 := by kernel_rfl
theorem fo23_5 : offB Try.prog 23 5 = some 5 := by kernel_rfl
theorem fo27_0 : offB Try.prog 27 0 = some 0 := by kernel_rfl
theorem fo27_1 : offB Try.prog 27 1 = some 6 := by kernel_rfl
theorem fo27_2 : offB Try.prog 27 2 = some 7 := by kernel_rfl
theorem fo27_3 : offB Try.prog 27 3 = some 8 := by kernel_rfl
theorem fo27_4 : offB Try.prog 27 4 = some 9 := by kernel_rfl
theorem fo27_5 : offB Try.prog 27 5 = some 10 := by kernel_rfl
theorem fo27_6 : offB Try.prog 27 6 = some 11 := by kernel_rfl
theorem fo27_7 : offB Try.prog 27 7 = some 12 := by kernel_rfl
theorem fo34_0 : offB Try.prog 34 0 = some 0 := by kernel_rfl
theorem fo34_1 : offB Try.prog 34 1 = some 1 := by kernel_rfl
theorem fo34_2 : offB Try.prog 34 2 = some 2 := by kernel_rfl
theorem fo34_3 : offB Try.prog 34 3 = some 3 := by kernel_rfl
theorem fo34_4 : offB Try.prog 34 4 = some 4 := by kernel_rfl
theorem fo34_5 : offB Try.prog 34 5 = some 5 := by kernel_rfl
theorem fo37_0 : offB Try.prog 37 0 = some 0 := by kernel_rfl
theorem fo37_1 : offB Try.prog 37 1 = some 6 := by kernel_rfl
theorem fo37_2 : offB Try.prog 37 2 = some 7 := by kernel_rfl
theorem fo37_3 : offB Try.prog 37 3 = some 8 := by kernel_rfl
theorem fo37_4 : offB Try.prog 37 4 = some 9 := by kernel_rfl
theorem fo37_5 : offB Try.prog 37 5 = some 10 := by kernel_rfl
theorem fo37_6 : offB Try.prog 37 6 = some 11 := by kernel_rfl
theorem fo37_7 : offB Try.prog 37 7 = some 12 := by kernel_rfl
theorem fo71_0 : offB Try.prog 71 0 = some 0 := by kernel_rfl
theorem fo71_1 : offB Try.prog 71 1 = some 1 := by kernel_rfl
theorem fo71_2 : offB Try.prog 71 2 = some 2 := by kernel_rfl
theorem fo73_0 : offB Try.prog 73 0 = some 0 := by kernel_rfl
theorem fo73_1 : offB Try.prog 73 1 = some 1 := by kernel_rfl
theorem fo75_0 : offB Try.prog 75 0 = some 0 := by kernel_rfl
theorem fo75_1 : offB Try.prog 75 1 = some 1 := by kernel_rfl
theorem fo75_2 : offB Try.prog 75 2 = some 4 := by kernel_rfl
theorem fo75_3 : offB Try.prog 75 3 = some 6 := by kernel_rfl
theorem fo75_4 : offB Try.prog 75 4 = some 7 := by kernel_rfl
theorem fo112_0 : offB Try.prog 112 0 = some 0 := by kernel_rfl
theorem fo112_1 : offB Try.prog 112 1 = some 1 := by kernel_rfl
theorem fo112_2 : offB Try.prog 112 2 = some 4 := by kernel_rfl
theorem fo112_3 : offB Try.prog 112 3 = some 6 := by kernel_rfl
theorem fo112_4 : offB Try.prog 112 4 = some 7 := by kernel_rfl
theorem fo112_5 : offB Try.prog 112 5 = some 8 := by kernel_rfl
theorem fo112_6 : offB Try.prog 112 6 = some 9 := by kernel_rfl
theorem fo112_7 : offB Try.prog 112 7 = some 10 := by kernel_rfl
theorem fo112_8 : offB Try.prog 112 8 = some 11 := by kernel_rfl
theorem fo112_9 : offB Try.prog 112 9 = some 12 := by kernel_rfl
theorem fo112_10 : offB Try.prog 112 10 = some 13 := by kernel_rfl
theorem fo112_11 : offB Try.prog 112 11 = some 14 := by kernel_rfl
theorem fo112_12 : offB Try.prog 112 12 = some 15 := by kernel_rfl
theorem fo112_13 : offB Try.prog 112 13 = some 16 := by kernel_rfl
theorem fo112_14 : offB Try.prog 112 14 = some 17 := by kernel_rfl
theorem fo112_15 : offB Try.prog 112 15 = some 18 := by kernel_rfl
theorem fo114_0 : offB Try.prog 114 0 = some 0 := by kernel_rfl
theorem fo114_1 : offB Try.prog 114 1 = some 1 := by kernel_rfl
theorem fo114_2 : offB Try.prog 114 2 = some 2 := by kernel_rfl
theorem fo115_0 : offB Try.prog 115 0 = some 0 := by kernel_rfl
theorem fo115_1 : offB Try.prog 115 1 = some 1 := by kernel_rfl
theorem fo117_0 : offB Try.prog 117 0 = some 0 := by kernel_rfl
theorem fo117_1 : offB Try.prog 117 1 = some 1 := by kernel_rfl
theorem fo117_2 : offB Try.prog 117 2 = some 4 := by kernel_rfl
theorem fo117_3 : offB Try.prog 117 3 = some 6 := by kernel_rfl
theorem fo117_4 : offB Try.prog 117 4 = some 7 := by kernel_rfl
theorem fo128_0 : offB Try.prog 128 0 = some 0 := by kernel_rfl
theorem fo128_1 : offB Try.prog 128 1 = some 1 := by kernel_rfl
theorem fo128_2 : offB Try.prog 128 2 = some 4 := by kernel_rfl
theorem fo128_3 : offB Try.prog 128 3 = some 6 := by kernel_rfl
theorem fo128_4 : offB Try.prog 128 4 = some 7 := by kernel_rfl
theorem fo128_5 : offB Try.prog 128 5 = some 8 := by kernel_rfl
theorem fo128_6 : offB Try.prog 128 6 = some 9 := by kernel_rfl
theorem fo128_7 : offB Try.prog 128 7 = some 10 := by kernel_rfl
theorem fo128_8 : offB Try.prog 128 8 = some 11 := by kernel_rfl
theorem fo128_9 : offB Try.prog 128 9 = some 12 := by kernel_rfl
theorem fo128_10 : offB Try.prog 128 10 = some 13 := by kernel_rfl
theorem fo128_11 : offB Try.prog 128 11 = some 14 := by kernel_rfl
theorem fo128_12 : offB Try.prog 128 12 = some 15 := by kernel_rfl
theorem fo128_13 : offB Try.prog 128 13 = some 16 := by kernel_rfl
theorem fo128_14 : offB Try.prog 128 14 = some 17 := by kernel_rfl
theorem fo128_15 : offB Try.prog 128 15 = some 18 := by kernel_rfl
theorem fo143_0 : offB Try.prog 143 0 = some 0 := by kernel_rfl
theorem fo143_1 : offB Try.prog 143 1 = some 1 := by kernel_rfl
theorem fo143_2 : offB Try.prog 143 2 = some 2 := by kernel_rfl
theorem fo143_3 : offB Try.prog 143 3 = some 3 := by kernel_rfl
theorem fo156_0 : offB Try.prog 156 0 = some 0 := by kernel_rfl
theorem fo156_1 : offB Try.prog 156 1 = some 1 := by kernel_rfl
theorem fo156_2 : offB Try.prog 156 2 = some 2 := by kernel_rfl
theorem fo156_3 : offB Try.prog 156 3 = some 3 := by kernel_rfl
theorem mk24 : mkB Try.prog 24 = some ([.int .i64 0], 1, 8) := by kernel_rfl
theorem mk35 : mkB Try.prog 35 = some ([.int .i64 0, .int .i64 0, .int .i64 0, .int .i64 0, .int .i64 0, .int .i64 0, .int .i64 0, .int .i64 0, .int .i64 0, .int .i64 0, .int .i64 0, .int .i64 0, .int .i64 0, .int .i64 0, .slice none 0 0, .slice none 0 0, .slice none 0 0, .slice none 0 0, .slice none 0 0], 19, 232) := by kernel_rfl
theorem mk39 : mkB Try.prog 39 = some ([.int .i64 0, .int .i64 0, .int .i64 0, .int .i64 0, .int .i64 0, .int .i64 0, .int .i64 0, .int .i64 0], 8, 64) := by kernel_rfl
theorem mk110 : mkB Try.prog 110 = some ([.int .i64 0, .int .i64 0, .int .i64 0, .int .i64 0], 4, 32) := by kernel_rfl
theorem mk163 : mkB Try.prog 163 = some ([.string ⟨#[]⟩], 1, 16) := by kernel_rfl
theorem sc3 : scalB Try.prog 3 = true := by kernel_rfl
theorem sc9 : scalB Try.prog 9 = true := by kernel_rfl
theorem sc24 : scalB Try.prog 24 = true := by kernel_rfl
theorem sc25 : scalB Try.prog 25 = true := by kernel_rfl
theorem sc35 : scalB Try.prog 35 = true := by kernel_rfl
theorem sc110 : scalB Try.prog 110 = true := by kernel_rfl
theorem sc126 : scalB Try.prog 126 = true := by kernel_rfl
theorem sl24 : slB Try.prog 24 = some (1, 8) := by kernel_rfl
theorem sl25 : slB Try.prog 25 = some (19, 232) := by kernel_rfl
theorem sl29 : slB Try.prog 29 = some (8, 64) := by kernel_rfl
theorem sl35 : slB Try.prog 35 = some (19, 232) := by kernel_rfl
theorem sl39 : slB Try.prog 39 = some (8, 64) := by kernel_rfl
theorem sl110 : slB Try.prog 110 = some (4, 32) := by kernel_rfl
theorem sl126 : slB Try.prog 126 = some (4, 32) := by kernel_rfl
theorem sl163 : slB Try.prog 163 = some (1, 16) := by kernel_rfl
theorem sz3 : szB Try.prog 3 = some 1 := by kernel_rfl
theorem sz23 : szB Try.prog 23 = some 6 := by kernel_rfl
theorem sz24 : szB Try.prog 24 = some 1 := by kernel_rfl
theorem sz34 : szB Try.prog 34 = some 6 := by kernel_rfl
theorem sz35 : szB Try.prog 35 = some 1 := by kernel_rfl
theorem sz37 : szB Try.prog 37 = some 13 := by kernel_rfl
theorem sz71 : szB Try.prog 71 = some 3 := by kernel_rfl
theorem sz73 : szB Try.prog 73 = some 2 := by kernel_rfl
theorem sz75 : szB Try.prog 75 = some 8 := by kernel_rfl
theorem sz110 : szB Try.prog 110 = some 1 := by kernel_rfl
theorem sz112 : szB Try.prog 112 = some 19 := by kernel_rfl
theorem sz114 : szB Try.prog 114 = some 3 := by kernel_rfl
theorem sz115 : szB Try.prog 115 = some 2 := by kernel_rfl
theorem sz117 : szB Try.prog 117 = some 8 := by kernel_rfl
theorem sz128 : szB Try.prog 128 = some 19 := by kernel_rfl
theorem sz143 : szB Try.prog 143 = some 4 := by kernel_rfl
theorem sz156 : szB Try.prog 156 = some 4 := by kernel_rfl
theorem ul24 : Try.prog.underlying 24 = some (.slice (Try.prog.elem 24)) := by kernel_rfl
theorem ul25 : Try.prog.underlying 25 = some (.slice (Try.prog.elem 25)) := by kernel_rfl
theorem ul29 : Try.prog.underlying 29 = some (.slice (Try.prog.elem 29)) := by kernel_rfl
theorem ul35 : Try.prog.underlying 35 = some (.slice (Try.prog.elem 35)) := by kernel_rfl
theorem ul39 : Try.prog.underlying 39 = some (.slice (Try.prog.elem 39)) := by kernel_rfl
theorem ul110 : Try.prog.underlying 110 = some (.slice (Try.prog.elem 110)) := by kernel_rfl
theorem ul126 : Try.prog.underlying 126 = some (.slice (Try.prog.elem 126)) := by kernel_rfl
theorem zr34 : zeroOf Try.prog 34 = some [.int .i64 0, .int .i64 0, .int .i64 0, .int .i64 0, .int .i64 0, .int .i64 0] := by kernel_rfl
theorem zr37 : zeroOf Try.prog 37 = some [.int .i64 0, .int .i64 0, .int .i64 0, .int .i64 0, .int .i64 0, .int .i64 0, .slice none 0 0, .slice none 0 0, .slice none 0 0, .int .i64 0, .int .i64 0, .int .i64 0, .int .i64 0] := by kernel_rfl
theorem zr71 : zeroOf Try.prog 71 = some [.int .i64 0, .int .i64 0, .int .i64 0] := by kernel_rfl
theorem zr73 : zeroOf Try.prog 73 = some [.int .i64 0, .int .i64 0] := by kernel_rfl
theorem zr75 : zeroOf Try.prog 75 = some [.int .i64 0, .int .i64 0, .int .i64 0, .int .i64 0, .int .i64 0, .int .i64 0, .int .i64 0, .int .i64 0] := by kernel_rfl
theorem zr112 : zeroOf Try.prog 112 = some [.int .i64 0, .int .i64 0, .int .i64 0, .int .i64 0, .int .i64 0, .int .i64 0, .int .i64 0, .int .i64 0, .int .i64 0, .int .i64 0, .int .i64 0, .int .i64 0, .int .i64 0, .int .i64 0, .slice none 0 0, .slice none 0 0, .slice none 0 0, .slice none 0 0, .slice none 0 0] := by kernel_rfl
theorem zr143 : zeroOf Try.prog 143 = some [.int .i64 0, .int .i64 0, .int .i64 0, .int .i64 0] := by kernel_rfl
end Go.Proofs.Ytjloiphocdaahaa.Wk
