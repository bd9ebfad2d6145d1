/- Facts of the program's tables that the walks lean on. -/
import Derived.Test.YthjeeimdgejlhaaProg
import Derived.Test.YthjeeimdgejlhaaCuts
import Derived.KernelRfl
namespace Go.Proofs.Ythjeeimdgejlhaa.Wk
open Go Go.RowKit Sl
theorem ag23 : aggB Try.prog 23 = true := by kernel_rfl
theorem ag27 : aggB Try.prog 27 = true := by kernel_rfl
theorem ag34 : aggB Try.prog 34 = true := by kernel_rfl
theorem ag37 : aggB Try.prog 37 = true := by kernel_rfl
theorem ag57 : aggB Try.prog 57 = true := by kernel_rfl
theorem ag59 : aggB Try.prog 59 = true := by kernel_rfl
theorem ag80 : aggB Try.prog 80 = true := by kernel_rfl
theorem ag82 : aggB Try.prog 82 = true := by kernel_rfl
theorem ag96 : aggB Try.prog 96 = true := by kernel_rfl
theorem ag111 : aggB Try.prog 111 = true := by kernel_rfl
theorem ag132 : aggB Try.prog 132 = true := by kernel_rfl
theorem ag134 : aggB Try.prog 134 = true := by kernel_rfl
theorem ag140 : aggB Try.prog 140 = true := by kernel_rfl
theorem ag168 : aggB Try.prog 168 = true := by kernel_rfl
theorem bd111 : Try.prog.built 111 [] = some [.int .i64 0, .int .i64 0, .int .i64 0, .int .i64 0].toArray := by kernel_rfl
theorem bl4 : Try.prog.underlying 4 = some .bool := by kernel_rfl
theorem en27 : enterB Try.prog 27 = true := by kernel_rfl
theorem en28 : enterB Try.prog 28 = true := by kernel_rfl
theorem en29 : enterB Try.prog 29 = true := by kernel_rfl
theorem en30 : enterB Try.prog 30 = true := by kernel_rfl
theorem en31 : enterB Try.prog 31 = true := by kernel_rfl
theorem en32 : enterB Try.prog 32 = true := by kernel_rfl
theorem en33 : enterB Try.prog 33 = true := by kernel_rfl
theorem en34 : enterB Try.prog 34 = true := by kernel_rfl
theorem en35 : enterB Try.prog 35 = true := by kernel_rfl
theorem en36 : enterB Try.prog 36 = true := by kernel_rfl
theorem en37 : enterB Try.prog 37 = true := by kernel_rfl
theorem en38 : enterB Try.prog 38 = true := by kernel_rfl
theorem en39 : enterB Try.prog 39 = true := by kernel_rfl
theorem en47 : enterB Try.prog 47 = true := by kernel_rfl
theorem en53 : enterB Try.prog 53 = true := by kernel_rfl
theorem en66 : enterB Try.prog 66 = true := by kernel_rfl
theorem en78 : enterB Try.prog 78 = true := by kernel_rfl
theorem en82 : enterB Try.prog 82 = true := by kernel_rfl
theorem en90 : enterB Try.prog 90 = true := by kernel_rfl
theorem en91 : enterB Try.prog 91 = true := by kernel_rfl
theorem en92 : enterB Try.prog 92 = true := by kernel_rfl
theorem en93 : enterB Try.prog 93 = true := by kernel_rfl
theorem en94 : enterB Try.prog 94 = true := by kernel_rfl
theorem en95 : enterB Try.prog 95 = true := by kernel_rfl
theorem en96 : enterB Try.prog 96 = true := by kernel_rfl
theorem en97 : enterB Try.prog 97 = true := by kernel_rfl
theorem en98 : enterB Try.prog 98 = true := by kernel_rfl
theorem en99 : enterB Try.prog 99 = true := by kernel_rfl
theorem en100 : enterB Try.prog 100 = true := by kernel_rfl
theorem en101 : enterB Try.prog 101 = true := by kernel_rfl
theorem en102 : enterB Try.prog 102 = true := by kernel_rfl
theorem en103 : enterB Try.prog 103 = true := by kernel_rfl
theorem en104 : enterB Try.prog 104 = true := by kernel_rfl
theorem en105 : enterB Try.prog 105 = true := by kernel_rfl
theorem en106 : enterB Try.prog 106 = true := by kernel_rfl
theorem en107 : enterB Try.prog 107 = true := by kernel_rfl
theorem en108 : enterB Try.prog 108 = true := by kernel_rfl
theorem en109 : enterB Try.prog 109 = true := by kernel_rfl
theorem en111 : enterB Try.prog 111 = true := by kernel_rfl
theorem en112 : enterB Try.prog 112 = true := by kernel_rfl
theorem en113 : enterB Try.prog 113 = true := by kernel_rfl
theorem en114 : enterB Try.prog 114 = true := by kernel_rfl
theorem en115 : enterB Try.prog 115 = true := by kernel_rfl
theorem en116 : enterB Try.prog 116 = true := by kernel_rfl
theorem en117 : enterB Try.prog 117 = true := by kernel_rfl
theorem en118 : enterB Try.prog 118 = true := by kernel_rfl
theorem en121 : enterB Try.prog 121 = true := by kernel_rfl
theorem en124 : enterB Try.prog 124 = true := by kernel_rfl
theorem en125 : enterB Try.prog 125 = true := by kernel_rfl
theorem en145 : enterB Try.prog 145 = true := by kernel_rfl
theorem en151 : enterB Try.prog 151 = true := by kernel_rfl
theorem en154 : enterB Try.prog 154 = true := by kernel_rfl
theorem en155 : enterB Try.prog 155 = true := by kernel_rfl
theorem en156 : enterB Try.prog 156 = true := by kernel_rfl
theorem en157 : enterB Try.prog 157 = true := by kernel_rfl
theorem en158 : enterB Try.prog 158 = true := by kernel_rfl
theorem en159 : enterB Try.prog 159 = true := by kernel_rfl
theorem en160 : enterB Try.prog 160 = true := by kernel_rfl
theorem en161 : enterB Try.prog 161 = true := by kernel_rfl
theorem en162 : enterB Try.prog 162 = true := by kernel_rfl
theorem en163 : enterB Try.prog 163 = true := by kernel_rfl
theorem en164 : enterB Try.prog 164 = true := by kernel_rfl
theorem en165 : enterB Try.prog 165 = true := by kernel_rfl
theorem en168 : enterB Try.prog 168 = true := by kernel_rfl
theorem en171 : enterB Try.prog 171 = true := by kernel_rfl
theorem en178 : enterB Try.prog 178 = true := by kernel_rfl
theorem en184 : enterB Try.prog 184 = true := by kernel_rfl
theorem en186 : enterB Try.prog 186 = true := by kernel_rfl
theorem en187 : enterB Try.prog 187 = true := by kernel_rfl
theorem en188 : enterB Try.prog 188 = true := by kernel_rfl
theorem en189 : enterB Try.prog 189 = true := by kernel_rfl
theorem en190 : enterB Try.prog 190 = true := by kernel_rfl
theorem en191 : enterB Try.prog 191 = true := by kernel_rfl
theorem en192 : enterB Try.prog 192 = true := by kernel_rfl
theorem en194 : enterB Try.prog 194 = true := by kernel_rfl
theorem en195 : enterB Try.prog 195 = true := by kernel_rfl
theorem en196 : enterB Try.prog 196 = true := by kernel_rfl
theorem en200 : enterB Try.prog 200 = true := by kernel_rfl
theorem en201 : enterB Try.prog 201 = true := by kernel_rfl
theorem en202 : enterB Try.prog 202 = true := by kernel_rfl
theorem en203 : enterB Try.prog 203 = true := by kernel_rfl
theorem en204 : enterB Try.prog 204 = true := by kernel_rfl
theorem fo23_0 : offB Try.prog 23 0 = some 0 := by kernel_rfl
theorem fo23_1 : offB Try.prog 23 1 = some 1 := by kernel_rfl
theorem fo23_2 : offB Try.prog 23 2 = some 2 := by kernel_rfl
theorem fo23_3 : offB Try.prog 23 3 = some 3 := by kernel_rfl
theorem fo23_4 : offB Try.prog 23 4 = some 4 := by kernel_rfl
theorem fo23_5 : offB Try.prog 23 5 = some 5 := by kernel_rfl
theorem fo27_0 : offB Try.prog 27 0 = some 0 := by kernel_rfl
theorem fo27_1 : offB Try.prog 27 1 = some 6 := by kernel_rfl
theorem fo27_2 : offB Try.prog 27 2 = some 7 := by kernel_rfl
theorem fo27_3 : offB Try.prog 27 3 = some 8 := by kernel_rfl
theorem fo27_4 : offB Try.prog 27 4 = some 9 := by kernel_rfl
theorem fo27_5 : offB Try.prog 27 5 = some 10 := by kernel_rfl
theorem fo27_6 : offB Try.prog 27 6 = some 11 := by kernel_rfl
theorem fo27_7 : offB Try.prog 27 7 = some 12 := by kernel_rfl
theorem fo34_0 : offB Try.prog 34 0 = some 0 := by kernel_rfl
theorem fo34_1 : offB Try.prog 34 1 = some 1 := by kernel_rfl
theorem fo34_2 : offB Try.prog 34 2 = some 2 := by kernel_rfl
theorem fo34_3 : offB Try.prog 34 3 = some 3 := by kernel_rfl
theorem fo34_4 : offB Try.prog 34 4 = some 4 := by kernel_rfl
theorem fo34_5 : offB Try.prog 34 5 = some 5 := by kernel_rfl
theorem fo37_0 : offB Try.prog 37 0 = some 0 := by kernel_rfl
theorem fo37_1 : offB Try.prog 37 1 = some 6 := by kernel_rfl
theorem fo37_2 : offB Try.prog 37 2 = some 7 := by kernel_rfl
theorem fo37_3 : offB Try.prog 37 3 = some 8 := by kernel_rfl
theorem fo37_4 : offB Try.prog 37 4 = some 9 := by kernel_rfl
theorem fo37_5 : offB Try.prog 37 5 = some 10 := by kernel_rfl
theorem fo37_6 : offB Try.prog 37 6 = some 11 := by kernel_rfl
theorem fo37_7 : offB Try.prog 37 7 = some 12 := by kernel_rfl
theorem fo57_0 : offB Try.prog 57 0 = some 0 := by kernel_rfl
theorem fo57_1 : offB Try.prog 57 1 = some 1 := by kernel_rfl
theorem fo57_2 : offB Try.prog 57 2 = some 2 := by kernel_rfl
theorem fo59_0 : offB Try.prog 59 0 = some 0 := by kernel_rfl
theorem fo59_1 : offB Try.prog 59 1 = some 1 := by kernel_rfl
theorem fo59_2 : offB Try.prog 59 2 = some 2 := by kernel_rfl
theorem fo80_0 : offB Try.prog 80 0 = some 0 := by kernel_rfl
theorem fo80_1 : offB Try.prog 80 1 = some 1 := by kernel_rfl
theorem fo82_0 : offB Try.prog 82 0 = some 0 := by kernel_rfl
theorem fo82_1 : offB Try.prog 82 1 = some 1 := by kernel_rfl
theorem fo82_2 : offB Try.prog 82 2 = some 4 := by kernel_rfl
theorem fo82_3 : offB Try.prog 82 3 = some 6 := by kernel_rfl
theorem fo82_4 : offB Try.prog 82 4 = some 7 := by kernel_rfl
theorem fo96_0 : offB Try.prog 96 0 = some 0 := by kernel_rfl
theorem fo96_1 : offB Try.prog 96 1 = some 1 := by kernel_rfl
theorem fo96_2 : offB Try.prog 96 2 = some 4 := by kernel_rfl
theorem fo96_3 : offB Try.prog 96 3 = some 6 := by kernel_rfl
theorem fo96_4 : offB Try.prog 96 4 = some 7 := by kernel_rfl
theorem fo96_5 : offB Try.prog 96 5 = some 8 := by kernel_rfl
theorem fo96_6 : offB Try.prog 96 6 = some 9 := by kernel_rfl
theorem fo96_7 : offB Try.prog 96 7 = some 10 := by kernel_rfl
theorem fo96_8 : offB Try.prog 96 8 = some 11 := by kernel_rfl
theorem fo96_9 : offB Try.prog 96 9 = some 12 := by kernel_rfl
theorem fo96_10 : offB Try.prog 96 10 = some 13 := by kernel_rfl
theorem fo96_11 : offB Try.prog 96 11 = some 14 := by kernel_rfl
theorem fo96_12 : offB Try.prog 96 12 = some 15 := by kernel_rfl
theorem fo96_13 : offB Try.prog 96 13 = some 16 := by kernel_rfl
theorem fo96_14 : offB Try.prog 96 14 = some 17 := by kernel_rfl
theorem fo96_15 : offB Try.prog 96 15 = some 18 := by kernel_rfl
theorem fo111_0 : offB Try.prog 111 0 = some 0 := by kernel_rfl
theorem fo111_1 : offB Try.prog 111 1 = some 1 := by kernel_rfl
theorem fo111_2 : offB Try.prog 111 2 = some 2 := by kernel_rfl
theorem fo111_3 : offB Try.prog 111 3 = some 3 := by kernel_rfl
theorem fo132_0 : offB Try.prog 132 0 = some 0 := by kernel_rfl
theorem fo132_1 : offB Try.prog 132 1 = some 1 := by kernel_rfl
theorem fo134_0 : offB Try.prog 134 0 = some 0 := by kernel_rfl
theorem fo134_1 : offB Try.prog 134 1 = some 1 := by kernel_rfl
theorem fo134_2 : offB Try.prog 134 2 = some 4 := by kernel_rfl
theorem fo134_3 : offB Try.prog 134 3 = some 6 := by kernel_rfl
theorem fo134_4 : offB Try.prog 134 4 = some 7 := by kernel_rfl
theorem fo140_0 : offB Try.prog 140 0 = some 0 := by kernel_rfl
theorem fo140_1 : offB Try.prog 140 1 = some 1 := by kernel_rfl
theorem fo140_2 : offB Try.prog 140 2 = some 4 := by kernel_rfl
theorem fo140_3 : offB Try.prog 140 3 = some 6 := by kernel_rfl
theorem fo140_4 : offB Try.prog 140 4 = some 7 := by kernel_rfl
theorem fo140_5 : offB Try.prog 140 5 = some 8 := by kernel_rfl
theorem fo140_6 : offB Try.prog 140 6 = some 9 := by kernel_rfl
theorem fo140_7 : offB Try.prog 140 7 = some 10 := by kernel_rfl
theorem fo140_8 : offB Try.prog 140 8 = some 11 := by kernel_rfl
theorem fo140_9 : offB Try.prog 140 9 = some 12 := by kernel_rfl
theorem fo140_10 : offB Try.prog 140 10 = some 13 := by kernel_rfl
theorem fo140_11 : offB Try.prog 140 11 = some 14 := by kernel_rfl
theorem fo140_12 : offB Try.prog 140 12 = some 15 := by kernel_rfl
theorem fo140_13 : offB Try.prog 140 13 = some 16 := by kernel_rfl
theorem fo140_14 : offB Try.prog 140 14 = some 17 := by kernel_rfl
theorem fo140_15 : offB Try.prog 140 15 = some 18 := by kernel_rfl
theorem fo168_0 : offB Try.prog 168 0 = some 0 := by kernel_rfl
theorem fo168_1 : offB Try.prog 168 1 = some 1 := by kernel_rfl
theorem fo168_2 : offB Try.prog 168 2 = some 2 := by kernel_rfl
theorem fo168_3 : offB Try.prog 168 3 = some 3 := by kernel_rfl
theorem mk24 : mkB Try.prog 24 = some ([.int .i64 0], 1, 8) := by kernel_rfl
theorem mk35 : mkB Try.prog 35 = some ([.int .i64 0, .int .i64 0, .int .i64 0, .int .i64 0, .int .i64 0, .int .i64 0, .int .i64 0, .int .i64 0, .int .i64 0, .int .i64 0, .int .i64 0, .int .i64 0, .int .i64 0, .int .i64 0, .slice none 0 0, .slice none 0 0, .slice none 0 0, .slice none 0 0, .slice none 0 0], 19, 232) := by kernel_rfl
theorem mk39 : mkB Try.prog 39 = some ([.int .i64 0, .int .i64 0, .int .i64 0, .int .i64 0, .int .i64 0, .int .i64 0, .int .i64 0, .int .i64 0], 8, 64) := by kernel_rfl
theorem mk94 : mkB Try.prog 94 = some ([.int .i64 0, .int .i64 0, .int .i64 0, .int .i64 0], 4, 32) := by kernel_rfl
theorem mk165 : mkB Try.prog 165 = some ([.string ⟨#[]⟩], 1, 16) := by kernel_rfl
theorem sc3 : scalB Try.prog 3 = true := by kernel_rfl
theorem sc9 : scalB Try.prog 9 = true := by kernel_rfl
theorem sc24 : scalB Try.prog 24 = true := by kernel_rfl
theorem sc25 : scalB Try.prog 25 = true := by kernel_rfl
theorem sc35 : scalB Try.prog 35 = true := by kernel_rfl
theorem sc94 : scalB Try.prog 94 = true := by kernel_rfl
theorem sc138 : scalB Try.prog 138 = true := by kernel_rfl
theorem sl24 : slB Try.prog 24 = some (1, 8) := by kernel_rfl
theorem sl25 : slB Try.prog 25 = some (19, 232) := by kernel_rfl
theorem sl29 : slB Try.prog 29 = some (8, 64) := by kernel_rfl
theorem sl35 : slB Try.prog 35 = some (19, 232) := by kernel_rfl
theorem sl39 : slB Try.prog 39 = some (8, 64) := by kernel_rfl
theorem sl94 : slB Try.prog 94 = some (4, 32) := by kernel_rfl
theorem sl138 : slB Try.prog 138 = some (4, 32) := by kernel_rfl
theorem sl165 : slB Try.prog 165 = some (1, 16) := by kernel_rfl
theorem sz3 : szB Try.prog 3 = some 1 := by kernel_rfl
theorem sz23 : szB Try.prog 23 = some 6 := by kernel_rfl
theorem sz24 : szB Try.prog 24 = some 1 := by kernel_rfl
theorem sz27 : szB Try.prog 27 = some 13 := by kernel_rfl
theorem sz34 : szB Try.prog 34 = some 6 := by kernel_rfl
theorem sz35 : szB Try.prog 35 = some 1 := by kernel_rfl
theorem sz37 : szB Try.prog 37 = some 13 := by kernel_rfl
theorem sz57 : szB Try.prog 57 = some 3 := by kernel_rfl
theorem sz59 : szB Try.prog 59 = some 3 := by kernel_rfl
theorem sz80 : szB Try.prog 80 = some 2 := by kernel_rfl
theorem sz82 : szB Try.prog 82 = some 8 := by kernel_rfl
theorem sz94 : szB Try.prog 94 = some 1 := by kernel_rfl
theorem sz96 : szB Try.prog 96 = some 19 := by kernel_rfl
theorem sz111 : szB Try.prog 111 = some 4 := by kernel_rfl
theorem sz132 : szB Try.prog 132 = some 2 := by kernel_rfl
theorem sz134 : szB Try.prog 134 = some 8 := by kernel_rfl
theorem sz140 : szB Try.prog 140 = some 19 := by kernel_rfl
theorem sz168 : szB Try.prog 168 = some 4 := by kernel_rfl
theorem ul24 : Try.prog.underlying 24 = some (.slice (Try.prog.elem 24)) := by kernel_rfl
theorem ul25 : Try.prog.underlying 25 = some (.slice (Try.prog.elem 25)) := by kernel_rfl
theorem ul29 : Try.prog.underlying 29 = some (.slice (Try.prog.elem 29)) := by kernel_rfl
theorem ul35 : Try.prog.underlying 35 = some (.slice (Try.prog.elem 35)) := by kernel_rfl
theorem ul39 : Try.prog.underlying 39 = some (.slice (Try.prog.elem 39)) := by kernel_rfl
theorem ul94 : Try.prog.underlying 94 = some (.slice (Try.prog.elem 94)) := by kernel_rfl
theorem ul138 : Try.prog.underlying 138 = some (.slice (Try.prog.elem 138)) := by kernel_rfl
theorem zr34 : zeroOf Try.prog 34 = some [.int .i64 0, .int .i64 0, .int .i64 0, .int .i64 0, .int .i64 0, .int .i64 0] := by kernel_rfl
theorem zr37 : zeroOf Try.prog 37 = some [.int .i64 0, .int .i64 0, .int .i64 0, .int .i64 0, .int .i64 0, .int .i64 0, .slice none 0 0, .slice none 0 0, .slice none 0 0, .int .i64 0, .int .i64 0, .int .i64 0, .int .i64 0] := by kernel_rfl
theorem zr59 : zeroOf Try.prog 59 = some [.int .i64 0, .int .i64 0, .int .i64 0] := by kernel_rfl
theorem zr80 : zeroOf Try.prog 80 = some [.int .i64 0, .int .i64 0] := by kernel_rfl
theorem zr82 : zeroOf Try.prog 82 = some [.int .i64 0, .int .i64 0, .int .i64 0, .int .i64 0, .int .i64 0, .int .i64 0, .int .i64 0, .int .i64 0] := by kernel_rfl
theorem zr96 : zeroOf Try.prog 96 = some [.int .i64 0, .int .i64 0, .int .i64 0, .int .i64 0, .int .i64 0, .int .i64 0, .int .i64 0, .int .i64 0, .int .i64 0, .int .i64 0, .int .i64 0, .int .i64 0, .int .i64 0, .int .i64 0, .slice none 0 0, .slice none 0 0, .slice none 0 0, .slice none 0 0, .slice none 0 0] := by kernel_rfl
theorem zr111 : zeroOf Try.prog 111 = some [.int .i64 0, .int .i64 0, .int .i64 0, .int .i64 0] := by kernel_rfl
end Go.Proofs.Ythjeeimdgejlhaa.Wk
