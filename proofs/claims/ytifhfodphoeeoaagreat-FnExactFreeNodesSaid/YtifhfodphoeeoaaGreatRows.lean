/-
  No cell of these rows narrows 'for every input' (looked for: loops, veiled, ifaces, maps, wideKeys, modest, calm, conditions, laid).
  DERIVED. THE GIVEN ROWS OF THIS SEAT. 6 by the template 'for every input the law returns true; each argument reads behind the call as it read before'; 0 by the template 'total and deterministic' (their statements: YtifhfodphoeeoaaGreatTotals.lean).
  GIVEN WITH THE SEED: the statements are not yours to turn. If you find one false, say at which input.
  Laid BY PROGRAM, IN A SANDBOX (cutbox-rows.mjs): the forced cells as the released guide's own fill.sh prints them over the translation 43dff55539dfe037… (all of the seat's roots in one cut). By AI agents, Wed Nov 11 2026. No macro, syntax, notation, axiom, sorry.
-/
import Derived.Test.YtifhfodphoeeoaaGreatChecked
import GoSem.Claim
import GoSem.ClaimJoined
import GoSem.ClaimMapViews
import Derived.JoinedTies
import Derived.KernelRfl
namespace Go.Proofs.YtifhfodphoeeoaaGreat
/- THE CELL 'sum', in the pinned program and in every row, IS THE sha256 OF THE DUMP (.gsa) THAT YtifhfodphoeeoaaGreatProg.lean LOADS. Nothing in Lean hashes anything: it is a label: what it is worth is what the hold of that sum in a sandbox is worth. -/
noncomputable def Tryz.pinned : Pinned := { name := "ytifhfodphoeeoaagreat", sum := "43dff55539dfe037267a6f27fd9b10aab9fb917e3689a0a9b0661b08837840af", checked := Tryz.checked }
namespace Rows
def none {H : Type} : Left H := { results := [], args := [] }

/-- 'laws.FnExactStepBegin': WHATEVER THE INPUT: true; the input reads as it did. -/
def fnExactStepBeginSpec : ChangeSpec := { name := "fnExactStepBegin", fn := fun _ => fun
  | [d1, d2] => { results := [.lit (.bool true)], args := [d1, d2] }
  | _ => none }
def fnExactStepBeginRow : OpenClaim := { program := "ytifhfodphoeeoaagreat", sum := "43dff55539dfe037267a6f27fd9b10aab9fb917e3689a0a9b0661b08837840af", func := "loop.example/g01628/laws.FnExactStepBegin", spec := "fnExactStepBegin", unfollowed := true, recurses := true, apart := false }
def FnExactStepBeginSaid : Prop := fnExactStepBeginRow.holds Tryz.pinned (OpenSpec.ofChange fnExactStepBeginSpec)

/-- ITS FALSE NEIGHBOUR: 'it returns false'. Refute it at one input. -/
def fnExactStepBeginWrong : ChangeSpec := { name := "fnExactStepBegin", fn := fun _ => fun
  | [d1, d2] => { results := [.lit (.bool false)], args := [d1, d2] }
  | _ => none }
def FnExactStepBeginWrongFalsely : Prop := fnExactStepBeginRow.holds Tryz.pinned (OpenSpec.ofChange fnExactStepBeginWrong)

/-- 'laws.FnExactStepWalk': WHATEVER THE INPUT: true; the input reads as it did. -/
def fnExactStepWalkSpec : ChangeSpec := { name := "fnExactStepWalk", fn := fun _ => fun
  | [d1, d2] => { results := [.lit (.bool true)], args := [d1, d2] }
  | _ => none }
def fnExactStepWalkRow : OpenClaim := { program := "ytifhfodphoeeoaagreat", sum := "43dff55539dfe037267a6f27fd9b10aab9fb917e3689a0a9b0661b08837840af", func := "loop.example/g01628/laws.FnExactStepWalk", spec := "fnExactStepWalk", unfollowed := true, recurses := true, apart := false }
def FnExactStepWalkSaid : Prop := fnExactStepWalkRow.holds Tryz.pinned (OpenSpec.ofChange fnExactStepWalkSpec)

/-- ITS FALSE NEIGHBOUR: 'it returns false'. Refute it at one input. -/
def fnExactStepWalkWrong : ChangeSpec := { name := "fnExactStepWalk", fn := fun _ => fun
  | [d1, d2] => { results := [.lit (.bool false)], args := [d1, d2] }
  | _ => none }
def FnExactStepWalkWrongFalsely : Prop := fnExactStepWalkRow.holds Tryz.pinned (OpenSpec.ofChange fnExactStepWalkWrong)

/-- 'laws.FnExactStepRead': WHATEVER THE INPUT: true; the input reads as it did. -/
def fnExactStepReadSpec : ChangeSpec := { name := "fnExactStepRead", fn := fun _ => fun
  | [d1, d2] => { results := [.lit (.bool true)], args := [d1, d2] }
  | _ => none }
def fnExactStepReadRow : OpenClaim := { program := "ytifhfodphoeeoaagreat", sum := "43dff55539dfe037267a6f27fd9b10aab9fb917e3689a0a9b0661b08837840af", func := "loop.example/g01628/laws.FnExactStepRead", spec := "fnExactStepRead", unfollowed := true, recurses := true, apart := false }
def FnExactStepReadSaid : Prop := fnExactStepReadRow.holds Tryz.pinned (OpenSpec.ofChange fnExactStepReadSpec)

/-- ITS FALSE NEIGHBOUR: 'it returns false'. Refute it at one input. -/
def fnExactStepReadWrong : ChangeSpec := { name := "fnExactStepRead", fn := fun _ => fun
  | [d1, d2] => { results := [.lit (.bool false)], args := [d1, d2] }
  | _ => none }
def FnExactStepReadWrongFalsely : Prop := fnExactStepReadRow.holds Tryz.pinned (OpenSpec.ofChange fnExactStepReadWrong)

/-- 'laws.FnExactStepReclaim': WHATEVER THE INPUT: true; the input reads as it did. -/
def fnExactStepReclaimSpec : ChangeSpec := { name := "fnExactStepReclaim", fn := fun _ => fun
  | [d1, d2] => { results := [.lit (.bool true)], args := [d1, d2] }
  | _ => none }
def fnExactStepReclaimRow : OpenClaim := { program := "ytifhfodphoeeoaagreat", sum := "43dff55539dfe037267a6f27fd9b10aab9fb917e3689a0a9b0661b08837840af", func := "loop.example/g01628/laws.FnExactStepReclaim", spec := "fnExactStepReclaim", unfollowed := true, recurses := true, apart := false }
def FnExactStepReclaimSaid : Prop := fnExactStepReclaimRow.holds Tryz.pinned (OpenSpec.ofChange fnExactStepReclaimSpec)

/-- ITS FALSE NEIGHBOUR: 'it returns false'. Refute it at one input. -/
def fnExactStepReclaimWrong : ChangeSpec := { name := "fnExactStepReclaim", fn := fun _ => fun
  | [d1, d2] => { results := [.lit (.bool false)], args := [d1, d2] }
  | _ => none }
def FnExactStepReclaimWrongFalsely : Prop := fnExactStepReclaimRow.holds Tryz.pinned (OpenSpec.ofChange fnExactStepReclaimWrong)

/-- 'laws.FnExactStepFlush': WHATEVER THE INPUT: true; the input reads as it did. -/
def fnExactStepFlushSpec : ChangeSpec := { name := "fnExactStepFlush", fn := fun _ => fun
  | [d1, d2] => { results := [.lit (.bool true)], args := [d1, d2] }
  | _ => none }
def fnExactStepFlushRow : OpenClaim := { program := "ytifhfodphoeeoaagreat", sum := "43dff55539dfe037267a6f27fd9b10aab9fb917e3689a0a9b0661b08837840af", func := "loop.example/g01628/laws.FnExactStepFlush", spec := "fnExactStepFlush", unfollowed := true, recurses := true, apart := false }
def FnExactStepFlushSaid : Prop := fnExactStepFlushRow.holds Tryz.pinned (OpenSpec.ofChange fnExactStepFlushSpec)

/-- ITS FALSE NEIGHBOUR: 'it returns false'. Refute it at one input. -/
def fnExactStepFlushWrong : ChangeSpec := { name := "fnExactStepFlush", fn := fun _ => fun
  | [d1, d2] => { results := [.lit (.bool false)], args := [d1, d2] }
  | _ => none }
def FnExactStepFlushWrongFalsely : Prop := fnExactStepFlushRow.holds Tryz.pinned (OpenSpec.ofChange fnExactStepFlushWrong)

/-- 'laws.FnExactFreeNodes': WHATEVER THE INPUT: true; the input reads as it did. -/
def fnExactFreeNodesSpec : ChangeSpec := { name := "fnExactFreeNodes", fn := fun _ => fun
  | [d] => { results := [.lit (.bool true)], args := [d] }
  | _ => none }
def fnExactFreeNodesRow : OpenClaim := { program := "ytifhfodphoeeoaagreat", sum := "43dff55539dfe037267a6f27fd9b10aab9fb917e3689a0a9b0661b08837840af", func := "loop.example/g01628/laws.FnExactFreeNodes", spec := "fnExactFreeNodes", unfollowed := true, recurses := true, apart := false }
def FnExactFreeNodesSaid : Prop := fnExactFreeNodesRow.holds Tryz.pinned (OpenSpec.ofChange fnExactFreeNodesSpec)

/-- ITS FALSE NEIGHBOUR: 'it returns false'. Refute it at one input. -/
def fnExactFreeNodesWrong : ChangeSpec := { name := "fnExactFreeNodes", fn := fun _ => fun
  | [d] => { results := [.lit (.bool false)], args := [d] }
  | _ => none }
def FnExactFreeNodesWrongFalsely : Prop := fnExactFreeNodesRow.holds Tryz.pinned (OpenSpec.ofChange fnExactFreeNodesWrong)

/- THE SECOND FORM. 'bulk': how many values and letters a reading holds, each counted each time it is reached (what is shared counts as often as it is met; a slice's spare places count too). A statement '..UptoSaid' is the law's where the arguments, and the package variables that the reading takes, are together of bulk at most 1048576: NARROWER than '..Said'. Prove '..Said' where nothing that the law and all that it calls make is longer than what came in: it says more and counts as full. Else prove '..UptoSaid'. A law counts once. -/
mutual
def uptoBulk {H : Type} : DataW H → Nat
  | .lit (.string bytes) => bytes.length + 1
  | .lit _ => 1
  | .nil => 1
  | .ptr d => uptoBulk d + 1
  | .slice elems spare => uptoBulkAll elems + uptoBulkAll spare + 1
  | .agg parts => uptoBulkAll parts + 1
  | .iface _ d => uptoBulk d + 1
  | .map entries => uptoBulkEntries entries + 1
  | .held _ => 1
def uptoBulkAll {H : Type} : List (DataW H) → Nat
  | [] => 0
  | d :: r => uptoBulk d + uptoBulkAll r
def uptoBulkEntries {H : Type} : List (Lit × DataW H) → Nat
  | [] => 0
  | x :: r => uptoBulkEntry x + uptoBulkEntries r
def uptoBulkEntry {H : Type} : Lit × DataW H → Nat
  | (.string bytes, d) => bytes.length + uptoBulk d + 1
  | (_, d) => uptoBulk d + 1
 end
def uptoSmall : (H : Type) → List (DataW H) → Bool := fun _ ds => decide (uptoBulkAll ds ≤ 1048576)
def OpenSpec.upto (s : _root_.Go.ChangeSpec) : _root_.Go.OpenSpec := { _root_.Go.OpenSpec.ofChange s with cond := some uptoSmall }

/-- 'laws.FnExactStepBegin', WHERE WHAT IT READS IS OF BULK AT MOST 1048576: true; the input reads as it did. -/
def fnExactStepBeginUptoRow : OpenClaim := { program := "ytifhfodphoeeoaagreat", sum := "43dff55539dfe037267a6f27fd9b10aab9fb917e3689a0a9b0661b08837840af", func := "loop.example/g01628/laws.FnExactStepBegin", spec := "fnExactStepBegin", unfollowed := true, recurses := true, apart := false, narrowed := true }
def FnExactStepBeginUptoSaid : Prop := fnExactStepBeginUptoRow.holds Tryz.pinned (OpenSpec.upto fnExactStepBeginSpec)

/-- 'laws.FnExactStepWalk', WHERE WHAT IT READS IS OF BULK AT MOST 1048576: true; the input reads as it did. -/
def fnExactStepWalkUptoRow : OpenClaim := { program := "ytifhfodphoeeoaagreat", sum := "43dff55539dfe037267a6f27fd9b10aab9fb917e3689a0a9b0661b08837840af", func := "loop.example/g01628/laws.FnExactStepWalk", spec := "fnExactStepWalk", unfollowed := true, recurses := true, apart := false, narrowed := true }
def FnExactStepWalkUptoSaid : Prop := fnExactStepWalkUptoRow.holds Tryz.pinned (OpenSpec.upto fnExactStepWalkSpec)

/-- 'laws.FnExactStepRead', WHERE WHAT IT READS IS OF BULK AT MOST 1048576: true; the input reads as it did. -/
def fnExactStepReadUptoRow : OpenClaim := { program := "ytifhfodphoeeoaagreat", sum := "43dff55539dfe037267a6f27fd9b10aab9fb917e3689a0a9b0661b08837840af", func := "loop.example/g01628/laws.FnExactStepRead", spec := "fnExactStepRead", unfollowed := true, recurses := true, apart := false, narrowed := true }
def FnExactStepReadUptoSaid : Prop := fnExactStepReadUptoRow.holds Tryz.pinned (OpenSpec.upto fnExactStepReadSpec)

/-- 'laws.FnExactStepReclaim', WHERE WHAT IT READS IS OF BULK AT MOST 1048576: true; the input reads as it did. -/
def fnExactStepReclaimUptoRow : OpenClaim := { program := "ytifhfodphoeeoaagreat", sum := "43dff55539dfe037267a6f27fd9b10aab9fb917e3689a0a9b0661b08837840af", func := "loop.example/g01628/laws.FnExactStepReclaim", spec := "fnExactStepReclaim", unfollowed := true, recurses := true, apart := false, narrowed := true }
def FnExactStepReclaimUptoSaid : Prop := fnExactStepReclaimUptoRow.holds Tryz.pinned (OpenSpec.upto fnExactStepReclaimSpec)

/-- 'laws.FnExactStepFlush', WHERE WHAT IT READS IS OF BULK AT MOST 1048576: true; the input reads as it did. -/
def fnExactStepFlushUptoRow : OpenClaim := { program := "ytifhfodphoeeoaagreat", sum := "43dff55539dfe037267a6f27fd9b10aab9fb917e3689a0a9b0661b08837840af", func := "loop.example/g01628/laws.FnExactStepFlush", spec := "fnExactStepFlush", unfollowed := true, recurses := true, apart := false, narrowed := true }
def FnExactStepFlushUptoSaid : Prop := fnExactStepFlushUptoRow.holds Tryz.pinned (OpenSpec.upto fnExactStepFlushSpec)

/-- 'laws.FnExactFreeNodes', WHERE WHAT IT READS IS OF BULK AT MOST 1048576: true; the input reads as it did. -/
def fnExactFreeNodesUptoRow : OpenClaim := { program := "ytifhfodphoeeoaagreat", sum := "43dff55539dfe037267a6f27fd9b10aab9fb917e3689a0a9b0661b08837840af", func := "loop.example/g01628/laws.FnExactFreeNodes", spec := "fnExactFreeNodes", unfollowed := true, recurses := true, apart := false, narrowed := true }
def FnExactFreeNodesUptoSaid : Prop := fnExactFreeNodesUptoRow.holds Tryz.pinned (OpenSpec.upto fnExactFreeNodesSpec)

end Rows
end Go.Proofs.YtifhfodphoeeoaaGreat
