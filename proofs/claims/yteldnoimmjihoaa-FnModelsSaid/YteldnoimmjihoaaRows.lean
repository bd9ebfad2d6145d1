/-
  No cell of these rows narrows 'for every input' (looked for: loops, veiled, ifaces, maps, wideKeys, modest, calm, conditions, laid).
  DERIVED. THE GIVEN ROWS OF THIS SEAT. 5 by the template 'for every input the law returns true; each argument reads behind the call as it read before'; 0 by the template 'total and deterministic' (their statements: YteldnoimmjihoaaTotals.lean).
  GIVEN WITH THE SEED: the statements are not yours to turn. If you find one false, say at which input.
  Laid BY PROGRAM, IN A SANDBOX (cutbox-rows.mjs): the forced cells as the released guide's own fill.sh prints them over the translation cf5f0ccdb85740be… (all of the seat's roots in one cut). By AI agents, Wed Nov 11 2026. No macro, syntax, notation, axiom, sorry.
-/
import Derived.Test.YteldnoimmjihoaaChecked
import GoSem.Claim
import GoSem.ClaimJoined
import GoSem.ClaimMapViews
import Derived.JoinedTies
import Derived.KernelRfl
namespace Go.Proofs.Yteldnoimmjihoaa
/- THE CELL 'sum', in the pinned program and in every row, IS THE sha256 OF THE DUMP (.gsa) THAT YteldnoimmjihoaaProg.lean LOADS. Nothing in Lean hashes anything: it is a label: what it is worth is what the hold of that sum in a sandbox is worth. -/
noncomputable def Try.pinned : Pinned := { name := "yteldnoimmjihoaa", sum := "cf5f0ccdb85740be6f930f6ace8a925fc752fcc44ffb7df73c656dea0570f63f", checked := Try.checked }
namespace Rows
def none {H : Type} : Left H := { results := [], args := [] }

/-- 'laws.FnExactExplains': WHATEVER THE INPUT: true; the input reads as it did. -/
def fnExactExplainsSpec : ChangeSpec := { name := "fnExactExplains", fn := fun _ => fun
  | [d1, d2, d3] => { results := [.lit (.bool true)], args := [d1, d2, d3] }
  | _ => none }
def fnExactExplainsRow : OpenClaim := { program := "yteldnoimmjihoaa", sum := "cf5f0ccdb85740be6f930f6ace8a925fc752fcc44ffb7df73c656dea0570f63f", func := "loop.example/g01628/laws.FnExactExplains", spec := "fnExactExplains", unfollowed := true, recurses := true, apart := false }
def FnExactExplainsSaid : Prop := fnExactExplainsRow.holds Try.pinned (OpenSpec.ofChange fnExactExplainsSpec)

/-- ITS FALSE NEIGHBOUR: 'it returns false'. Refute it at one input. -/
def fnExactExplainsWrong : ChangeSpec := { name := "fnExactExplains", fn := fun _ => fun
  | [d1, d2, d3] => { results := [.lit (.bool false)], args := [d1, d2, d3] }
  | _ => none }
def FnExactExplainsWrongFalsely : Prop := fnExactExplainsRow.holds Try.pinned (OpenSpec.ofChange fnExactExplainsWrong)

/-- 'laws.FnExactIsLinearizable': WHATEVER THE INPUT: true; the input reads as it did. -/
def fnExactIsLinearizableSpec : ChangeSpec := { name := "fnExactIsLinearizable", fn := fun _ => fun
  | [d1, d2] => { results := [.lit (.bool true)], args := [d1, d2] }
  | _ => none }
def fnExactIsLinearizableRow : OpenClaim := { program := "yteldnoimmjihoaa", sum := "cf5f0ccdb85740be6f930f6ace8a925fc752fcc44ffb7df73c656dea0570f63f", func := "loop.example/g01628/laws.FnExactIsLinearizable", spec := "fnExactIsLinearizable", unfollowed := true, recurses := true, apart := false }
def FnExactIsLinearizableSaid : Prop := fnExactIsLinearizableRow.holds Try.pinned (OpenSpec.ofChange fnExactIsLinearizableSpec)

/-- ITS FALSE NEIGHBOUR: 'it returns false'. Refute it at one input. -/
def fnExactIsLinearizableWrong : ChangeSpec := { name := "fnExactIsLinearizable", fn := fun _ => fun
  | [d1, d2] => { results := [.lit (.bool false)], args := [d1, d2] }
  | _ => none }
def FnExactIsLinearizableWrongFalsely : Prop := fnExactIsLinearizableRow.holds Try.pinned (OpenSpec.ofChange fnExactIsLinearizableWrong)

/-- 'laws.FnExactLinearize': WHATEVER THE INPUT: true; the input reads as it did. -/
def fnExactLinearizeSpec : ChangeSpec := { name := "fnExactLinearize", fn := fun _ => fun
  | [d1, d2] => { results := [.lit (.bool true)], args := [d1, d2] }
  | _ => none }
def fnExactLinearizeRow : OpenClaim := { program := "yteldnoimmjihoaa", sum := "cf5f0ccdb85740be6f930f6ace8a925fc752fcc44ffb7df73c656dea0570f63f", func := "loop.example/g01628/laws.FnExactLinearize", spec := "fnExactLinearize", unfollowed := true, recurses := true, apart := false }
def FnExactLinearizeSaid : Prop := fnExactLinearizeRow.holds Try.pinned (OpenSpec.ofChange fnExactLinearizeSpec)

/-- ITS FALSE NEIGHBOUR: 'it returns false'. Refute it at one input. -/
def fnExactLinearizeWrong : ChangeSpec := { name := "fnExactLinearize", fn := fun _ => fun
  | [d1, d2] => { results := [.lit (.bool false)], args := [d1, d2] }
  | _ => none }
def FnExactLinearizeWrongFalsely : Prop := fnExactLinearizeRow.holds Try.pinned (OpenSpec.ofChange fnExactLinearizeWrong)

/-- 'laws.FnExactReplayOrder': WHATEVER THE INPUT: true; the input reads as it did. -/
def fnExactReplayOrderSpec : ChangeSpec := { name := "fnExactReplayOrder", fn := fun _ => fun
  | [d1, d2, d3] => { results := [.lit (.bool true)], args := [d1, d2, d3] }
  | _ => none }
def fnExactReplayOrderRow : OpenClaim := { program := "yteldnoimmjihoaa", sum := "cf5f0ccdb85740be6f930f6ace8a925fc752fcc44ffb7df73c656dea0570f63f", func := "loop.example/g01628/laws.FnExactReplayOrder", spec := "fnExactReplayOrder", unfollowed := true, recurses := true, apart := false }
def FnExactReplayOrderSaid : Prop := fnExactReplayOrderRow.holds Try.pinned (OpenSpec.ofChange fnExactReplayOrderSpec)

/-- ITS FALSE NEIGHBOUR: 'it returns false'. Refute it at one input. -/
def fnExactReplayOrderWrong : ChangeSpec := { name := "fnExactReplayOrder", fn := fun _ => fun
  | [d1, d2, d3] => { results := [.lit (.bool false)], args := [d1, d2, d3] }
  | _ => none }
def FnExactReplayOrderWrongFalsely : Prop := fnExactReplayOrderRow.holds Try.pinned (OpenSpec.ofChange fnExactReplayOrderWrong)

/-- 'laws.FnModels': WHATEVER THE INPUT: true; the input reads as it did. -/
def fnModelsSpec : ChangeSpec := { name := "fnModels", fn := fun _ => fun
  | [d] => { results := [.lit (.bool true)], args := [d] }
  | _ => none }
def fnModelsRow : OpenClaim := { program := "yteldnoimmjihoaa", sum := "cf5f0ccdb85740be6f930f6ace8a925fc752fcc44ffb7df73c656dea0570f63f", func := "loop.example/g01628/laws.FnModels", spec := "fnModels", unfollowed := true, recurses := true, apart := false }
def FnModelsSaid : Prop := fnModelsRow.holds Try.pinned (OpenSpec.ofChange fnModelsSpec)

/-- ITS FALSE NEIGHBOUR: 'it returns false'. Refute it at one input. -/
def fnModelsWrong : ChangeSpec := { name := "fnModels", fn := fun _ => fun
  | [d] => { results := [.lit (.bool false)], args := [d] }
  | _ => none }
def FnModelsWrongFalsely : Prop := fnModelsRow.holds Try.pinned (OpenSpec.ofChange fnModelsWrong)

/- THE SECOND FORM. 'bulk': how many values and letters a reading holds, each counted each time it is reached (what is shared counts as often as it is met; a slice's spare places count too). A statement '..UptoSaid' is the law's where the arguments, and the package variables that the reading takes, are together of bulk at most 1048576: NARROWER than '..Said'. Prove '..Said' where nothing that the law and all that it calls make is longer than what came in: it says more and counts as full. Else prove '..UptoSaid'. A law counts once. -/
mutual
def uptoBulk {H : Type} : DataW H → Nat
  | .lit (.string bytes) => bytes.length + 1
  | .lit _ => 1
  | .nil => 1
  | .ptr d => uptoBulk d + 1
  | .slice elems spare => uptoBulkAll elems + uptoBulkAll spare + 1
  | .agg parts => uptoBulkAll parts + 1
  | .iface _ d => uptoBulk d + 1
  | .map entries => uptoBulkEntries entries + 1
  | .held _ => 1
def uptoBulkAll {H : Type} : List (DataW H) → Nat
  | [] => 0
  | d :: r => uptoBulk d + uptoBulkAll r
def uptoBulkEntries {H : Type} : List (Lit × DataW H) → Nat
  | [] => 0
  | x :: r => uptoBulkEntry x + uptoBulkEntries r
def uptoBulkEntry {H : Type} : Lit × DataW H → Nat
  | (.string bytes, d) => bytes.length + uptoBulk d + 1
  | (_, d) => uptoBulk d + 1
 end
def uptoSmall : (H : Type) → List (DataW H) → Bool := fun _ ds => decide (uptoBulkAll ds ≤ 1048576)
def OpenSpec.upto (s : _root_.Go.ChangeSpec) : _root_.Go.OpenSpec := { _root_.Go.OpenSpec.ofChange s with cond := some uptoSmall }

/-- 'laws.FnExactExplains', WHERE WHAT IT READS IS OF BULK AT MOST 1048576: true; the input reads as it did. -/
def fnExactExplainsUptoRow : OpenClaim := { program := "yteldnoimmjihoaa", sum := "cf5f0ccdb85740be6f930f6ace8a925fc752fcc44ffb7df73c656dea0570f63f", func := "loop.example/g01628/laws.FnExactExplains", spec := "fnExactExplains", unfollowed := true, recurses := true, apart := false, narrowed := true }
def FnExactExplainsUptoSaid : Prop := fnExactExplainsUptoRow.holds Try.pinned (OpenSpec.upto fnExactExplainsSpec)

/-- 'laws.FnExactIsLinearizable', WHERE WHAT IT READS IS OF BULK AT MOST 1048576: true; the input reads as it did. -/
def fnExactIsLinearizableUptoRow : OpenClaim := { program := "yteldnoimmjihoaa", sum := "cf5f0ccdb85740be6f930f6ace8a925fc752fcc44ffb7df73c656dea0570f63f", func := "loop.example/g01628/laws.FnExactIsLinearizable", spec := "fnExactIsLinearizable", unfollowed := true, recurses := true, apart := false, narrowed := true }
def FnExactIsLinearizableUptoSaid : Prop := fnExactIsLinearizableUptoRow.holds Try.pinned (OpenSpec.upto fnExactIsLinearizableSpec)

/-- 'laws.FnExactLinearize', WHERE WHAT IT READS IS OF BULK AT MOST 1048576: true; the input reads as it did. -/
def fnExactLinearizeUptoRow : OpenClaim := { program := "yteldnoimmjihoaa", sum := "cf5f0ccdb85740be6f930f6ace8a925fc752fcc44ffb7df73c656dea0570f63f", func := "loop.example/g01628/laws.FnExactLinearize", spec := "fnExactLinearize", unfollowed := true, recurses := true, apart := false, narrowed := true }
def FnExactLinearizeUptoSaid : Prop := fnExactLinearizeUptoRow.holds Try.pinned (OpenSpec.upto fnExactLinearizeSpec)

/-- 'laws.FnExactReplayOrder', WHERE WHAT IT READS IS OF BULK AT MOST 1048576: true; the input reads as it did. -/
def fnExactReplayOrderUptoRow : OpenClaim := { program := "yteldnoimmjihoaa", sum := "cf5f0ccdb85740be6f930f6ace8a925fc752fcc44ffb7df73c656dea0570f63f", func := "loop.example/g01628/laws.FnExactReplayOrder", spec := "fnExactReplayOrder", unfollowed := true, recurses := true, apart := false, narrowed := true }
def FnExactReplayOrderUptoSaid : Prop := fnExactReplayOrderUptoRow.holds Try.pinned (OpenSpec.upto fnExactReplayOrderSpec)

/-- 'laws.FnModels', WHERE WHAT IT READS IS OF BULK AT MOST 1048576: true; the input reads as it did. -/
def fnModelsUptoRow : OpenClaim := { program := "yteldnoimmjihoaa", sum := "cf5f0ccdb85740be6f930f6ace8a925fc752fcc44ffb7df73c656dea0570f63f", func := "loop.example/g01628/laws.FnModels", spec := "fnModels", unfollowed := true, recurses := true, apart := false, narrowed := true }
def FnModelsUptoSaid : Prop := fnModelsUptoRow.holds Try.pinned (OpenSpec.upto fnModelsSpec)

end Rows
end Go.Proofs.Yteldnoimmjihoaa
