/-
  No cell of these rows narrows 'for every input' (looked for: loops, veiled, ifaces, maps, wideKeys, modest, calm, conditions, laid).
  DERIVED. THE GIVEN ROWS OF THIS SEAT. 9 by the template 'for every input the law returns true; each argument reads behind the call as it read before'; 0 by the template 'total and deterministic' (their statements: YtjloiphocdaahaaTotals.lean).
  GIVEN WITH THE SEED: the statements are not yours to turn. If you find one false, say at which input.
  Laid BY PROGRAM, IN A SANDBOX (cutbox-rows.mjs): the forced cells as the released guide's own fill.sh prints them over the translation d1427828ed7f343b… (all of the seat's roots in one cut). By AI agents, Wed Nov 11 2026. No macro, syntax, notation, axiom, sorry.
-/
import Derived.Test.YtjloiphocdaahaaChecked
import GoSem.Claim
import GoSem.ClaimJoined
import GoSem.ClaimMapViews
import Derived.JoinedTies
import Derived.KernelRfl
namespace Go.Proofs.Ytjloiphocdaahaa
/- THE CELL 'sum', in the pinned program and in every row, IS THE sha256 OF THE DUMP (.gsa) THAT YtjloiphocdaahaaProg.lean LOADS. Nothing in Lean hashes anything: it is a label: what it is worth is what the hold of that sum in a sandbox is worth. -/
noncomputable def Try.pinned : Pinned := { name := "ytjloiphocdaahaa", sum := "d1427828ed7f343b5fd833a6660cd7b882c900f1043715a1e60467258a08b998", checked := Try.checked }
namespace Rows
def none {H : Type} : Left H := { results := [], args := [] }

/-- 'laws.FnExactEqualMachines': WHATEVER THE INPUT: true; the input reads as it did. -/
def fnExactEqualMachinesSpec : ChangeSpec := { name := "fnExactEqualMachines", fn := fun _ => fun
  | [d1, d2] => { results := [.lit (.bool true)], args := [d1, d2] }
  | _ => none }
def fnExactEqualMachinesRow : OpenClaim := { program := "ytjloiphocdaahaa", sum := "d1427828ed7f343b5fd833a6660cd7b882c900f1043715a1e60467258a08b998", func := "loop.example/g01628/laws.FnExactEqualMachines", spec := "fnExactEqualMachines", unfollowed := true, recurses := true, apart := false }
def FnExactEqualMachinesSaid : Prop := fnExactEqualMachinesRow.holds Try.pinned (OpenSpec.ofChange fnExactEqualMachinesSpec)

/-- ITS FALSE NEIGHBOUR: 'it returns false'. Refute it at one input. -/
def fnExactEqualMachinesWrong : ChangeSpec := { name := "fnExactEqualMachines", fn := fun _ => fun
  | [d1, d2] => { results := [.lit (.bool false)], args := [d1, d2] }
  | _ => none }
def FnExactEqualMachinesWrongFalsely : Prop := fnExactEqualMachinesRow.holds Try.pinned (OpenSpec.ofChange fnExactEqualMachinesWrong)

/-- 'laws.FnExactNewMachine': WHATEVER THE INPUT: true; the input reads as it did. -/
def fnExactNewMachineSpec : ChangeSpec := { name := "fnExactNewMachine", fn := fun _ => fun
  | [d1, d2] => { results := [.lit (.bool true)], args := [d1, d2] }
  | _ => none }
def fnExactNewMachineRow : OpenClaim := { program := "ytjloiphocdaahaa", sum := "d1427828ed7f343b5fd833a6660cd7b882c900f1043715a1e60467258a08b998", func := "loop.example/g01628/laws.FnExactNewMachine", spec := "fnExactNewMachine", unfollowed := true, recurses := true, apart := false }
def FnExactNewMachineSaid : Prop := fnExactNewMachineRow.holds Try.pinned (OpenSpec.ofChange fnExactNewMachineSpec)

/-- ITS FALSE NEIGHBOUR: 'it returns false'. Refute it at one input. -/
def fnExactNewMachineWrong : ChangeSpec := { name := "fnExactNewMachine", fn := fun _ => fun
  | [d1, d2] => { results := [.lit (.bool false)], args := [d1, d2] }
  | _ => none }
def FnExactNewMachineWrongFalsely : Prop := fnExactNewMachineRow.holds Try.pinned (OpenSpec.ofChange fnExactNewMachineWrong)

/-- 'laws.FnExactVisibleAt': WHATEVER THE INPUT: true; the input reads as it did. -/
def fnExactVisibleAtSpec : ChangeSpec := { name := "fnExactVisibleAt", fn := fun _ => fun
  | [d1, d2, d3] => { results := [.lit (.bool true)], args := [d1, d2, d3] }
  | _ => none }
def fnExactVisibleAtRow : OpenClaim := { program := "ytjloiphocdaahaa", sum := "d1427828ed7f343b5fd833a6660cd7b882c900f1043715a1e60467258a08b998", func := "loop.example/g01628/laws.FnExactVisibleAt", spec := "fnExactVisibleAt", unfollowed := true, recurses := true, apart := false }
def FnExactVisibleAtSaid : Prop := fnExactVisibleAtRow.holds Try.pinned (OpenSpec.ofChange fnExactVisibleAtSpec)

/-- ITS FALSE NEIGHBOUR: 'it returns false'. Refute it at one input. -/
def fnExactVisibleAtWrong : ChangeSpec := { name := "fnExactVisibleAt", fn := fun _ => fun
  | [d1, d2, d3] => { results := [.lit (.bool false)], args := [d1, d2, d3] }
  | _ => none }
def FnExactVisibleAtWrongFalsely : Prop := fnExactVisibleAtRow.holds Try.pinned (OpenSpec.ofChange fnExactVisibleAtWrong)

/-- 'laws.FnExactIsOrdered': WHATEVER THE INPUT: true; the input reads as it did. -/
def fnExactIsOrderedSpec : ChangeSpec := { name := "fnExactIsOrdered", fn := fun _ => fun
  | [d1, d2] => { results := [.lit (.bool true)], args := [d1, d2] }
  | _ => none }
def fnExactIsOrderedRow : OpenClaim := { program := "ytjloiphocdaahaa", sum := "d1427828ed7f343b5fd833a6660cd7b882c900f1043715a1e60467258a08b998", func := "loop.example/g01628/laws.FnExactIsOrdered", spec := "fnExactIsOrdered", unfollowed := true, recurses := true, apart := false }
def FnExactIsOrderedSaid : Prop := fnExactIsOrderedRow.holds Try.pinned (OpenSpec.ofChange fnExactIsOrderedSpec)

/-- ITS FALSE NEIGHBOUR: 'it returns false'. Refute it at one input. -/
def fnExactIsOrderedWrong : ChangeSpec := { name := "fnExactIsOrdered", fn := fun _ => fun
  | [d1, d2] => { results := [.lit (.bool false)], args := [d1, d2] }
  | _ => none }
def FnExactIsOrderedWrongFalsely : Prop := fnExactIsOrderedRow.holds Try.pinned (OpenSpec.ofChange fnExactIsOrderedWrong)

/-- 'laws.FnExactAnnounced': WHATEVER THE INPUT: true; the input reads as it did. -/
def fnExactAnnouncedSpec : ChangeSpec := { name := "fnExactAnnounced", fn := fun _ => fun
  | [d] => { results := [.lit (.bool true)], args := [d] }
  | _ => none }
def fnExactAnnouncedRow : OpenClaim := { program := "ytjloiphocdaahaa", sum := "d1427828ed7f343b5fd833a6660cd7b882c900f1043715a1e60467258a08b998", func := "loop.example/g01628/laws.FnExactAnnounced", spec := "fnExactAnnounced", unfollowed := true, recurses := true, apart := false }
def FnExactAnnouncedSaid : Prop := fnExactAnnouncedRow.holds Try.pinned (OpenSpec.ofChange fnExactAnnouncedSpec)

/-- ITS FALSE NEIGHBOUR: 'it returns false'. Refute it at one input. -/
def fnExactAnnouncedWrong : ChangeSpec := { name := "fnExactAnnounced", fn := fun _ => fun
  | [d] => { results := [.lit (.bool false)], args := [d] }
  | _ => none }
def FnExactAnnouncedWrongFalsely : Prop := fnExactAnnouncedRow.holds Try.pinned (OpenSpec.ofChange fnExactAnnouncedWrong)

/-- 'laws.FnExactHazards': WHATEVER THE INPUT: true; the input reads as it did. -/
def fnExactHazardsSpec : ChangeSpec := { name := "fnExactHazards", fn := fun _ => fun
  | [d] => { results := [.lit (.bool true)], args := [d] }
  | _ => none }
def fnExactHazardsRow : OpenClaim := { program := "ytjloiphocdaahaa", sum := "d1427828ed7f343b5fd833a6660cd7b882c900f1043715a1e60467258a08b998", func := "loop.example/g01628/laws.FnExactHazards", spec := "fnExactHazards", unfollowed := true, recurses := true, apart := false }
def FnExactHazardsSaid : Prop := fnExactHazardsRow.holds Try.pinned (OpenSpec.ofChange fnExactHazardsSpec)

/-- ITS FALSE NEIGHBOUR: 'it returns false'. Refute it at one input. -/
def fnExactHazardsWrong : ChangeSpec := { name := "fnExactHazards", fn := fun _ => fun
  | [d] => { results := [.lit (.bool false)], args := [d] }
  | _ => none }
def FnExactHazardsWrongFalsely : Prop := fnExactHazardsRow.holds Try.pinned (OpenSpec.ofChange fnExactHazardsWrong)

/-- 'laws.FnExactListOf': WHATEVER THE INPUT: true; the input reads as it did. -/
def fnExactListOfSpec : ChangeSpec := { name := "fnExactListOf", fn := fun _ => fun
  | [d1, d2] => { results := [.lit (.bool true)], args := [d1, d2] }
  | _ => none }
def fnExactListOfRow : OpenClaim := { program := "ytjloiphocdaahaa", sum := "d1427828ed7f343b5fd833a6660cd7b882c900f1043715a1e60467258a08b998", func := "loop.example/g01628/laws.FnExactListOf", spec := "fnExactListOf", unfollowed := true, recurses := true, apart := false }
def FnExactListOfSaid : Prop := fnExactListOfRow.holds Try.pinned (OpenSpec.ofChange fnExactListOfSpec)

/-- ITS FALSE NEIGHBOUR: 'it returns false'. Refute it at one input. -/
def fnExactListOfWrong : ChangeSpec := { name := "fnExactListOf", fn := fun _ => fun
  | [d1, d2] => { results := [.lit (.bool false)], args := [d1, d2] }
  | _ => none }
def FnExactListOfWrongFalsely : Prop := fnExactListOfRow.holds Try.pinned (OpenSpec.ofChange fnExactListOfWrong)

/-- 'laws.FnExactStampsOf': WHATEVER THE INPUT: true; the input reads as it did. -/
def fnExactStampsOfSpec : ChangeSpec := { name := "fnExactStampsOf", fn := fun _ => fun
  | [d1, d2] => { results := [.lit (.bool true)], args := [d1, d2] }
  | _ => none }
def fnExactStampsOfRow : OpenClaim := { program := "ytjloiphocdaahaa", sum := "d1427828ed7f343b5fd833a6660cd7b882c900f1043715a1e60467258a08b998", func := "loop.example/g01628/laws.FnExactStampsOf", spec := "fnExactStampsOf", unfollowed := true, recurses := true, apart := false }
def FnExactStampsOfSaid : Prop := fnExactStampsOfRow.holds Try.pinned (OpenSpec.ofChange fnExactStampsOfSpec)

/-- ITS FALSE NEIGHBOUR: 'it returns false'. Refute it at one input. -/
def fnExactStampsOfWrong : ChangeSpec := { name := "fnExactStampsOf", fn := fun _ => fun
  | [d1, d2] => { results := [.lit (.bool false)], args := [d1, d2] }
  | _ => none }
def FnExactStampsOfWrongFalsely : Prop := fnExactStampsOfRow.holds Try.pinned (OpenSpec.ofChange fnExactStampsOfWrong)

/-- 'laws.FnExactIsMachine': WHATEVER THE INPUT: true; the input reads as it did. -/
def fnExactIsMachineSpec : ChangeSpec := { name := "fnExactIsMachine", fn := fun _ => fun
  | [d] => { results := [.lit (.bool true)], args := [d] }
  | _ => none }
def fnExactIsMachineRow : OpenClaim := { program := "ytjloiphocdaahaa", sum := "d1427828ed7f343b5fd833a6660cd7b882c900f1043715a1e60467258a08b998", func := "loop.example/g01628/laws.FnExactIsMachine", spec := "fnExactIsMachine", unfollowed := true, recurses := true, apart := false }
def FnExactIsMachineSaid : Prop := fnExactIsMachineRow.holds Try.pinned (OpenSpec.ofChange fnExactIsMachineSpec)

/-- ITS FALSE NEIGHBOUR: 'it returns false'. Refute it at one input. -/
def fnExactIsMachineWrong : ChangeSpec := { name := "fnExactIsMachine", fn := fun _ => fun
  | [d] => { results := [.lit (.bool false)], args := [d] }
  | _ => none }
def FnExactIsMachineWrongFalsely : Prop := fnExactIsMachineRow.holds Try.pinned (OpenSpec.ofChange fnExactIsMachineWrong)

/- THE SECOND FORM. 'bulk': how many values and letters a reading holds, each counted each time it is reached (what is shared counts as often as it is met; a slice's spare places count too). A statement '..UptoSaid' is the law's where the arguments, and the package variables that the reading takes, are together of bulk at most 1048576: NARROWER than '..Said'. Prove '..Said' where nothing that the law and all that it calls make is longer than what came in: it says more and counts as full. Else prove '..UptoSaid'. A law counts once. -/
mutual
def uptoBulk {H : Type} : DataW H → Nat
  | .lit (.string bytes) => bytes.length + 1
  | .lit _ => 1
  | .nil => 1
  | .ptr d => uptoBulk d + 1
  | .slice elems spare => uptoBulkAll elems + uptoBulkAll spare + 1
  | .agg parts => uptoBulkAll parts + 1
  | .iface _ d => uptoBulk d + 1
  | .map entries => uptoBulkEntries entries + 1
  | .held _ => 1
def uptoBulkAll {H : Type} : List (DataW H) → Nat
  | [] => 0
  | d :: r => uptoBulk d + uptoBulkAll r
def uptoBulkEntries {H : Type} : List (Lit × DataW H) → Nat
  | [] => 0
  | x :: r => uptoBulkEntry x + uptoBulkEntries r
def uptoBulkEntry {H : Type} : Lit × DataW H → Nat
  | (.string bytes, d) => bytes.length + uptoBulk d + 1
  | (_, d) => uptoBulk d + 1
 end
def uptoSmall : (H : Type) → List (DataW H) → Bool := fun _ ds => decide (uptoBulkAll ds ≤ 1048576)
def OpenSpec.upto (s : _root_.Go.ChangeSpec) : _root_.Go.OpenSpec := { _root_.Go.OpenSpec.ofChange s with cond := some uptoSmall }

/-- 'laws.FnExactEqualMachines', WHERE WHAT IT READS IS OF BULK AT MOST 1048576: true; the input reads as it did. -/
def fnExactEqualMachinesUptoRow : OpenClaim := { program := "ytjloiphocdaahaa", sum := "d1427828ed7f343b5fd833a6660cd7b882c900f1043715a1e60467258a08b998", func := "loop.example/g01628/laws.FnExactEqualMachines", spec := "fnExactEqualMachines", unfollowed := true, recurses := true, apart := false, narrowed := true }
def FnExactEqualMachinesUptoSaid : Prop := fnExactEqualMachinesUptoRow.holds Try.pinned (OpenSpec.upto fnExactEqualMachinesSpec)

/-- 'laws.FnExactNewMachine', WHERE WHAT IT READS IS OF BULK AT MOST 1048576: true; the input reads as it did. -/
def fnExactNewMachineUptoRow : OpenClaim := { program := "ytjloiphocdaahaa", sum := "d1427828ed7f343b5fd833a6660cd7b882c900f1043715a1e60467258a08b998", func := "loop.example/g01628/laws.FnExactNewMachine", spec := "fnExactNewMachine", unfollowed := true, recurses := true, apart := false, narrowed := true }
def FnExactNewMachineUptoSaid : Prop := fnExactNewMachineUptoRow.holds Try.pinned (OpenSpec.upto fnExactNewMachineSpec)

/-- 'laws.FnExactVisibleAt', WHERE WHAT IT READS IS OF BULK AT MOST 1048576: true; the input reads as it did. -/
def fnExactVisibleAtUptoRow : OpenClaim := { program := "ytjloiphocdaahaa", sum := "d1427828ed7f343b5fd833a6660cd7b882c900f1043715a1e60467258a08b998", func := "loop.example/g01628/laws.FnExactVisibleAt", spec := "fnExactVisibleAt", unfollowed := true, recurses := true, apart := false, narrowed := true }
def FnExactVisibleAtUptoSaid : Prop := fnExactVisibleAtUptoRow.holds Try.pinned (OpenSpec.upto fnExactVisibleAtSpec)

/-- 'laws.FnExactIsOrdered', WHERE WHAT IT READS IS OF BULK AT MOST 1048576: true; the input reads as it did. -/
def fnExactIsOrderedUptoRow : OpenClaim := { program := "ytjloiphocdaahaa", sum := "d1427828ed7f343b5fd833a6660cd7b882c900f1043715a1e60467258a08b998", func := "loop.example/g01628/laws.FnExactIsOrdered", spec := "fnExactIsOrdered", unfollowed := true, recurses := true, apart := false, narrowed := true }
def FnExactIsOrderedUptoSaid : Prop := fnExactIsOrderedUptoRow.holds Try.pinned (OpenSpec.upto fnExactIsOrderedSpec)

/-- 'laws.FnExactAnnounced', WHERE WHAT IT READS IS OF BULK AT MOST 1048576: true; the input reads as it did. -/
def fnExactAnnouncedUptoRow : OpenClaim := { program := "ytjloiphocdaahaa", sum := "d1427828ed7f343b5fd833a6660cd7b882c900f1043715a1e60467258a08b998", func := "loop.example/g01628/laws.FnExactAnnounced", spec := "fnExactAnnounced", unfollowed := true, recurses := true, apart := false, narrowed := true }
def FnExactAnnouncedUptoSaid : Prop := fnExactAnnouncedUptoRow.holds Try.pinned (OpenSpec.upto fnExactAnnouncedSpec)

/-- 'laws.FnExactHazards', WHERE WHAT IT READS IS OF BULK AT MOST 1048576: true; the input reads as it did. -/
def fnExactHazardsUptoRow : OpenClaim := { program := "ytjloiphocdaahaa", sum := "d1427828ed7f343b5fd833a6660cd7b882c900f1043715a1e60467258a08b998", func := "loop.example/g01628/laws.FnExactHazards", spec := "fnExactHazards", unfollowed := true, recurses := true, apart := false, narrowed := true }
def FnExactHazardsUptoSaid : Prop := fnExactHazardsUptoRow.holds Try.pinned (OpenSpec.upto fnExactHazardsSpec)

/-- 'laws.FnExactListOf', WHERE WHAT IT READS IS OF BULK AT MOST 1048576: true; the input reads as it did. -/
def fnExactListOfUptoRow : OpenClaim := { program := "ytjloiphocdaahaa", sum := "d1427828ed7f343b5fd833a6660cd7b882c900f1043715a1e60467258a08b998", func := "loop.example/g01628/laws.FnExactListOf", spec := "fnExactListOf", unfollowed := true, recurses := true, apart := false, narrowed := true }
def FnExactListOfUptoSaid : Prop := fnExactListOfUptoRow.holds Try.pinned (OpenSpec.upto fnExactListOfSpec)

/-- 'laws.FnExactStampsOf', WHERE WHAT IT READS IS OF BULK AT MOST 1048576: true; the input reads as it did. -/
def fnExactStampsOfUptoRow : OpenClaim := { program := "ytjloiphocdaahaa", sum := "d1427828ed7f343b5fd833a6660cd7b882c900f1043715a1e60467258a08b998", func := "loop.example/g01628/laws.FnExactStampsOf", spec := "fnExactStampsOf", unfollowed := true, recurses := true, apart := false, narrowed := true }
def FnExactStampsOfUptoSaid : Prop := fnExactStampsOfUptoRow.holds Try.pinned (OpenSpec.upto fnExactStampsOfSpec)

/-- 'laws.FnExactIsMachine', WHERE WHAT IT READS IS OF BULK AT MOST 1048576: true; the input reads as it did. -/
def fnExactIsMachineUptoRow : OpenClaim := { program := "ytjloiphocdaahaa", sum := "d1427828ed7f343b5fd833a6660cd7b882c900f1043715a1e60467258a08b998", func := "loop.example/g01628/laws.FnExactIsMachine", spec := "fnExactIsMachine", unfollowed := true, recurses := true, apart := false, narrowed := true }
def FnExactIsMachineUptoSaid : Prop := fnExactIsMachineUptoRow.holds Try.pinned (OpenSpec.upto fnExactIsMachineSpec)

end Rows
end Go.Proofs.Ytjloiphocdaahaa
