/-
  No cell of these rows narrows 'for every input' (looked for: loops, veiled, ifaces, maps, wideKeys, modest, calm, conditions, laid).
  DERIVED. THE GIVEN ROWS OF THIS SEAT. 6 by the template 'for every input the law returns true; each argument reads behind the call as it read before'; 0 by the template 'total and deterministic' (their statements: YtogjnobdlliekaaTotals.lean).
  GIVEN WITH THE SEED: the statements are not yours to turn. If you find one false, say at which input.
  Laid BY PROGRAM, IN A SANDBOX (cutbox-rows.mjs): the forced cells as the released guide's own fill.sh prints them over the translation 9b1dc7f704dce99a… (all of the seat's roots in one cut). By AI agents, Wed Nov 11 2026. No macro, syntax, notation, axiom, sorry.
-/
import Derived.Test.YtogjnobdlliekaaChecked
import GoSem.Claim
import GoSem.ClaimJoined
import GoSem.ClaimMapViews
import Derived.JoinedTies
import Derived.KernelRfl
namespace Go.Proofs.Ytogjnobdlliekaa
/- THE CELL 'sum', in the pinned program and in every row, IS THE sha256 OF THE DUMP (.gsa) THAT YtogjnobdlliekaaProg.lean LOADS. Nothing in Lean hashes anything: it is a label: what it is worth is what the hold of that sum in a sandbox is worth. -/
noncomputable def Try.pinned : Pinned := { name := "ytogjnobdlliekaa", sum := "9b1dc7f704dce99a23ca403ad559c661b2c98bdedeb4a60f094bd8a58d1c4630", checked := Try.checked }
namespace Rows
def none {H : Type} : Left H := { results := [], args := [] }

/-- 'laws.FnExactIsBeginPc': WHATEVER THE INPUT: true; the input reads as it did. -/
def fnExactIsBeginPcSpec : ChangeSpec := { name := "fnExactIsBeginPc", fn := fun _ => fun
  | [d] => { results := [.lit (.bool true)], args := [d] }
  | _ => none }
def fnExactIsBeginPcRow : OpenClaim := { program := "ytogjnobdlliekaa", sum := "9b1dc7f704dce99a23ca403ad559c661b2c98bdedeb4a60f094bd8a58d1c4630", func := "loop.example/g01628/laws.FnExactIsBeginPc", spec := "fnExactIsBeginPc", apart := false }
def FnExactIsBeginPcSaid : Prop := fnExactIsBeginPcRow.holds Try.pinned (OpenSpec.ofChange fnExactIsBeginPcSpec)

/-- ITS FALSE NEIGHBOUR: 'it returns false'. Refute it at one input. -/
def fnExactIsBeginPcWrong : ChangeSpec := { name := "fnExactIsBeginPc", fn := fun _ => fun
  | [d] => { results := [.lit (.bool false)], args := [d] }
  | _ => none }
def FnExactIsBeginPcWrongFalsely : Prop := fnExactIsBeginPcRow.holds Try.pinned (OpenSpec.ofChange fnExactIsBeginPcWrong)

/-- 'laws.FnExactIsReadPc': WHATEVER THE INPUT: true; the input reads as it did. -/
def fnExactIsReadPcSpec : ChangeSpec := { name := "fnExactIsReadPc", fn := fun _ => fun
  | [d] => { results := [.lit (.bool true)], args := [d] }
  | _ => none }
def fnExactIsReadPcRow : OpenClaim := { program := "ytogjnobdlliekaa", sum := "9b1dc7f704dce99a23ca403ad559c661b2c98bdedeb4a60f094bd8a58d1c4630", func := "loop.example/g01628/laws.FnExactIsReadPc", spec := "fnExactIsReadPc", apart := false }
def FnExactIsReadPcSaid : Prop := fnExactIsReadPcRow.holds Try.pinned (OpenSpec.ofChange fnExactIsReadPcSpec)

/-- ITS FALSE NEIGHBOUR: 'it returns false'. Refute it at one input. -/
def fnExactIsReadPcWrong : ChangeSpec := { name := "fnExactIsReadPc", fn := fun _ => fun
  | [d] => { results := [.lit (.bool false)], args := [d] }
  | _ => none }
def FnExactIsReadPcWrongFalsely : Prop := fnExactIsReadPcRow.holds Try.pinned (OpenSpec.ofChange fnExactIsReadPcWrong)

/-- 'laws.FnExactIsWalkPc': WHATEVER THE INPUT: true; the input reads as it did. -/
def fnExactIsWalkPcSpec : ChangeSpec := { name := "fnExactIsWalkPc", fn := fun _ => fun
  | [d] => { results := [.lit (.bool true)], args := [d] }
  | _ => none }
def fnExactIsWalkPcRow : OpenClaim := { program := "ytogjnobdlliekaa", sum := "9b1dc7f704dce99a23ca403ad559c661b2c98bdedeb4a60f094bd8a58d1c4630", func := "loop.example/g01628/laws.FnExactIsWalkPc", spec := "fnExactIsWalkPc", apart := false }
def FnExactIsWalkPcSaid : Prop := fnExactIsWalkPcRow.holds Try.pinned (OpenSpec.ofChange fnExactIsWalkPcSpec)

/-- ITS FALSE NEIGHBOUR: 'it returns false'. Refute it at one input. -/
def fnExactIsWalkPcWrong : ChangeSpec := { name := "fnExactIsWalkPc", fn := fun _ => fun
  | [d] => { results := [.lit (.bool false)], args := [d] }
  | _ => none }
def FnExactIsWalkPcWrongFalsely : Prop := fnExactIsWalkPcRow.holds Try.pinned (OpenSpec.ofChange fnExactIsWalkPcWrong)

/-- 'laws.FnExactIsWritePc': WHATEVER THE INPUT: true; the input reads as it did. -/
def fnExactIsWritePcSpec : ChangeSpec := { name := "fnExactIsWritePc", fn := fun _ => fun
  | [d] => { results := [.lit (.bool true)], args := [d] }
  | _ => none }
def fnExactIsWritePcRow : OpenClaim := { program := "ytogjnobdlliekaa", sum := "9b1dc7f704dce99a23ca403ad559c661b2c98bdedeb4a60f094bd8a58d1c4630", func := "loop.example/g01628/laws.FnExactIsWritePc", spec := "fnExactIsWritePc", apart := false }
def FnExactIsWritePcSaid : Prop := fnExactIsWritePcRow.holds Try.pinned (OpenSpec.ofChange fnExactIsWritePcSpec)

/-- ITS FALSE NEIGHBOUR: 'it returns false'. Refute it at one input. -/
def fnExactIsWritePcWrong : ChangeSpec := { name := "fnExactIsWritePc", fn := fun _ => fun
  | [d] => { results := [.lit (.bool false)], args := [d] }
  | _ => none }
def FnExactIsWritePcWrongFalsely : Prop := fnExactIsWritePcRow.holds Try.pinned (OpenSpec.ofChange fnExactIsWritePcWrong)

/-- 'laws.FnExactIsFlushPc': WHATEVER THE INPUT: true; the input reads as it did. -/
def fnExactIsFlushPcSpec : ChangeSpec := { name := "fnExactIsFlushPc", fn := fun _ => fun
  | [d] => { results := [.lit (.bool true)], args := [d] }
  | _ => none }
def fnExactIsFlushPcRow : OpenClaim := { program := "ytogjnobdlliekaa", sum := "9b1dc7f704dce99a23ca403ad559c661b2c98bdedeb4a60f094bd8a58d1c4630", func := "loop.example/g01628/laws.FnExactIsFlushPc", spec := "fnExactIsFlushPc", apart := false }
def FnExactIsFlushPcSaid : Prop := fnExactIsFlushPcRow.holds Try.pinned (OpenSpec.ofChange fnExactIsFlushPcSpec)

/-- ITS FALSE NEIGHBOUR: 'it returns false'. Refute it at one input. -/
def fnExactIsFlushPcWrong : ChangeSpec := { name := "fnExactIsFlushPc", fn := fun _ => fun
  | [d] => { results := [.lit (.bool false)], args := [d] }
  | _ => none }
def FnExactIsFlushPcWrongFalsely : Prop := fnExactIsFlushPcRow.holds Try.pinned (OpenSpec.ofChange fnExactIsFlushPcWrong)

/-- 'laws.FnExactLimboLimit': WHATEVER THE INPUT: true; the input reads as it did. -/
def fnExactLimboLimitSpec : ChangeSpec := { name := "fnExactLimboLimit", fn := fun _ => fun
  | [d] => { results := [.lit (.bool true)], args := [d] }
  | _ => none }
def fnExactLimboLimitRow : OpenClaim := { program := "ytogjnobdlliekaa", sum := "9b1dc7f704dce99a23ca403ad559c661b2c98bdedeb4a60f094bd8a58d1c4630", func := "loop.example/g01628/laws.FnExactLimboLimit", spec := "fnExactLimboLimit", apart := false }
def FnExactLimboLimitSaid : Prop := fnExactLimboLimitRow.holds Try.pinned (OpenSpec.ofChange fnExactLimboLimitSpec)

/-- ITS FALSE NEIGHBOUR: 'it returns false'. Refute it at one input. -/
def fnExactLimboLimitWrong : ChangeSpec := { name := "fnExactLimboLimit", fn := fun _ => fun
  | [d] => { results := [.lit (.bool false)], args := [d] }
  | _ => none }
def FnExactLimboLimitWrongFalsely : Prop := fnExactLimboLimitRow.holds Try.pinned (OpenSpec.ofChange fnExactLimboLimitWrong)

/- THE SECOND FORM. 'bulk': how many values and letters a reading holds, each counted each time it is reached (what is shared counts as often as it is met; a slice's spare places count too). A statement '..UptoSaid' is the law's where the arguments, and the package variables that the reading takes, are together of bulk at most 1048576: NARROWER than '..Said'. Prove '..Said' where nothing that the law and all that it calls make is longer than what came in: it says more and counts as full. Else prove '..UptoSaid'. A law counts once. -/
mutual
def uptoBulk {H : Type} : DataW H → Nat
  | .lit (.string bytes) => bytes.length + 1
  | .lit _ => 1
  | .nil => 1
  | .ptr d => uptoBulk d + 1
  | .slice elems spare => uptoBulkAll elems + uptoBulkAll spare + 1
  | .agg parts => uptoBulkAll parts + 1
  | .iface _ d => uptoBulk d + 1
  | .map entries => uptoBulkEntries entries + 1
  | .held _ => 1
def uptoBulkAll {H : Type} : List (DataW H) → Nat
  | [] => 0
  | d :: r => uptoBulk d + uptoBulkAll r
def uptoBulkEntries {H : Type} : List (Lit × DataW H) → Nat
  | [] => 0
  | x :: r => uptoBulkEntry x + uptoBulkEntries r
def uptoBulkEntry {H : Type} : Lit × DataW H → Nat
  | (.string bytes, d) => bytes.length + uptoBulk d + 1
  | (_, d) => uptoBulk d + 1
 end
def uptoSmall : (H : Type) → List (DataW H) → Bool := fun _ ds => decide (uptoBulkAll ds ≤ 1048576)
def OpenSpec.upto (s : _root_.Go.ChangeSpec) : _root_.Go.OpenSpec := { _root_.Go.OpenSpec.ofChange s with cond := some uptoSmall }

/-- 'laws.FnExactIsBeginPc', WHERE WHAT IT READS IS OF BULK AT MOST 1048576: true; the input reads as it did. -/
def fnExactIsBeginPcUptoRow : OpenClaim := { program := "ytogjnobdlliekaa", sum := "9b1dc7f704dce99a23ca403ad559c661b2c98bdedeb4a60f094bd8a58d1c4630", func := "loop.example/g01628/laws.FnExactIsBeginPc", spec := "fnExactIsBeginPc", apart := false, narrowed := true }
def FnExactIsBeginPcUptoSaid : Prop := fnExactIsBeginPcUptoRow.holds Try.pinned (OpenSpec.upto fnExactIsBeginPcSpec)

/-- 'laws.FnExactIsReadPc', WHERE WHAT IT READS IS OF BULK AT MOST 1048576: true; the input reads as it did. -/
def fnExactIsReadPcUptoRow : OpenClaim := { program := "ytogjnobdlliekaa", sum := "9b1dc7f704dce99a23ca403ad559c661b2c98bdedeb4a60f094bd8a58d1c4630", func := "loop.example/g01628/laws.FnExactIsReadPc", spec := "fnExactIsReadPc", apart := false, narrowed := true }
def FnExactIsReadPcUptoSaid : Prop := fnExactIsReadPcUptoRow.holds Try.pinned (OpenSpec.upto fnExactIsReadPcSpec)

/-- 'laws.FnExactIsWalkPc', WHERE WHAT IT READS IS OF BULK AT MOST 1048576: true; the input reads as it did. -/
def fnExactIsWalkPcUptoRow : OpenClaim := { program := "ytogjnobdlliekaa", sum := "9b1dc7f704dce99a23ca403ad559c661b2c98bdedeb4a60f094bd8a58d1c4630", func := "loop.example/g01628/laws.FnExactIsWalkPc", spec := "fnExactIsWalkPc", apart := false, narrowed := true }
def FnExactIsWalkPcUptoSaid : Prop := fnExactIsWalkPcUptoRow.holds Try.pinned (OpenSpec.upto fnExactIsWalkPcSpec)

/-- 'laws.FnExactIsWritePc', WHERE WHAT IT READS IS OF BULK AT MOST 1048576: true; the input reads as it did. -/
def fnExactIsWritePcUptoRow : OpenClaim := { program := "ytogjnobdlliekaa", sum := "9b1dc7f704dce99a23ca403ad559c661b2c98bdedeb4a60f094bd8a58d1c4630", func := "loop.example/g01628/laws.FnExactIsWritePc", spec := "fnExactIsWritePc", apart := false, narrowed := true }
def FnExactIsWritePcUptoSaid : Prop := fnExactIsWritePcUptoRow.holds Try.pinned (OpenSpec.upto fnExactIsWritePcSpec)

/-- 'laws.FnExactIsFlushPc', WHERE WHAT IT READS IS OF BULK AT MOST 1048576: true; the input reads as it did. -/
def fnExactIsFlushPcUptoRow : OpenClaim := { program := "ytogjnobdlliekaa", sum := "9b1dc7f704dce99a23ca403ad559c661b2c98bdedeb4a60f094bd8a58d1c4630", func := "loop.example/g01628/laws.FnExactIsFlushPc", spec := "fnExactIsFlushPc", apart := false, narrowed := true }
def FnExactIsFlushPcUptoSaid : Prop := fnExactIsFlushPcUptoRow.holds Try.pinned (OpenSpec.upto fnExactIsFlushPcSpec)

/-- 'laws.FnExactLimboLimit', WHERE WHAT IT READS IS OF BULK AT MOST 1048576: true; the input reads as it did. -/
def fnExactLimboLimitUptoRow : OpenClaim := { program := "ytogjnobdlliekaa", sum := "9b1dc7f704dce99a23ca403ad559c661b2c98bdedeb4a60f094bd8a58d1c4630", func := "loop.example/g01628/laws.FnExactLimboLimit", spec := "fnExactLimboLimit", apart := false, narrowed := true }
def FnExactLimboLimitUptoSaid : Prop := fnExactLimboLimitUptoRow.holds Try.pinned (OpenSpec.upto fnExactLimboLimitSpec)

end Rows
end Go.Proofs.Ytogjnobdlliekaa
