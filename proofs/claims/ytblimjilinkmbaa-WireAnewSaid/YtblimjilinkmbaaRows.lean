/-
  No cell of these rows narrows 'for every input' (looked for: loops, veiled, ifaces, maps, wideKeys, modest, calm, conditions, laid).
  DERIVED. THE GIVEN ROWS OF THIS SEAT. 8 by the template 'for every input the law returns true; each argument reads behind the call as it read before'; 0 by the template 'total and deterministic' (their statements: YtblimjilinkmbaaTotals.lean).
  GIVEN WITH THE SEED: the statements are not yours to turn. If you find one false, say at which input.
  Laid BY PROGRAM, IN A SANDBOX (cutbox-rows.mjs): the forced cells as the released guide's own fill.sh prints them over the translation 875d2c6afd8b92d5… (all of the seat's roots in one cut). By AI agents, Wed Nov 11 2026. No macro, syntax, notation, axiom, sorry.
-/
import Derived.Test.YtblimjilinkmbaaChecked
import GoSem.Claim
import GoSem.ClaimJoined
import GoSem.ClaimMapViews
import Derived.JoinedTies
import Derived.KernelRfl
namespace Go.Proofs.Ytblimjilinkmbaa
/- THE CELL 'sum', in the pinned program and in every row, IS THE sha256 OF THE DUMP (.gsa) THAT YtblimjilinkmbaaProg.lean LOADS. Nothing in Lean hashes anything: it is a label: what it is worth is what the hold of that sum in a sandbox is worth. -/
noncomputable def Try.pinned : Pinned := { name := "ytblimjilinkmbaa", sum := "875d2c6afd8b92d519bd6253be772ed4bc839bee88f22081d9ee3a87d86344aa", checked := Try.checked }
namespace Rows
def none {H : Type} : Left H := { results := [], args := [] }

/-- 'rentrolllaw.WireBuilds': WHATEVER THE INPUT: true; the input reads as it did. -/
def wireBuildsSpec : ChangeSpec := { name := "wireBuilds", fn := fun _ => fun
  | [d] => { results := [.lit (.bool true)], args := [d] }
  | _ => none }
def wireBuildsRow : OpenClaim := { program := "ytblimjilinkmbaa", sum := "875d2c6afd8b92d519bd6253be772ed4bc839bee88f22081d9ee3a87d86344aa", func := "rentroll/rentrolllaw.WireBuilds", spec := "wireBuilds", unfollowed := true, recurses := true, apart := false }
def WireBuildsSaid : Prop := wireBuildsRow.holds Try.pinned (OpenSpec.ofChange wireBuildsSpec)

/-- ITS FALSE NEIGHBOUR: 'it returns false'. Refute it at one input. -/
def wireBuildsWrong : ChangeSpec := { name := "wireBuilds", fn := fun _ => fun
  | [d] => { results := [.lit (.bool false)], args := [d] }
  | _ => none }
def WireBuildsWrongFalsely : Prop := wireBuildsRow.holds Try.pinned (OpenSpec.ofChange wireBuildsWrong)

/-- 'rentrolllaw.WireParses': WHATEVER THE INPUT: true; the input reads as it did. -/
def wireParsesSpec : ChangeSpec := { name := "wireParses", fn := fun _ => fun
  | [d] => { results := [.lit (.bool true)], args := [d] }
  | _ => none }
def wireParsesRow : OpenClaim := { program := "ytblimjilinkmbaa", sum := "875d2c6afd8b92d519bd6253be772ed4bc839bee88f22081d9ee3a87d86344aa", func := "rentroll/rentrolllaw.WireParses", spec := "wireParses", unfollowed := true, recurses := true, apart := false }
def WireParsesSaid : Prop := wireParsesRow.holds Try.pinned (OpenSpec.ofChange wireParsesSpec)

/-- ITS FALSE NEIGHBOUR: 'it returns false'. Refute it at one input. -/
def wireParsesWrong : ChangeSpec := { name := "wireParses", fn := fun _ => fun
  | [d] => { results := [.lit (.bool false)], args := [d] }
  | _ => none }
def WireParsesWrongFalsely : Prop := wireParsesRow.holds Try.pinned (OpenSpec.ofChange wireParsesWrong)

/-- 'rentrollkeep.WireBack': WHATEVER THE INPUT: true; the input reads as it did. -/
def wireBackSpec : ChangeSpec := { name := "wireBack", fn := fun _ => fun
  | [d] => { results := [.lit (.bool true)], args := [d] }
  | _ => none }
def wireBackRow : OpenClaim := { program := "ytblimjilinkmbaa", sum := "875d2c6afd8b92d519bd6253be772ed4bc839bee88f22081d9ee3a87d86344aa", func := "rentroll/rentrollkeep.WireBack", spec := "wireBack", unfollowed := true, recurses := true, apart := false }
def WireBackSaid : Prop := wireBackRow.holds Try.pinned (OpenSpec.ofChange wireBackSpec)

/-- ITS FALSE NEIGHBOUR: 'it returns false'. Refute it at one input. -/
def wireBackWrong : ChangeSpec := { name := "wireBack", fn := fun _ => fun
  | [d] => { results := [.lit (.bool false)], args := [d] }
  | _ => none }
def WireBackWrongFalsely : Prop := wireBackRow.holds Try.pinned (OpenSpec.ofChange wireBackWrong)

/-- 'rentrollkeep.WireTurned': WHATEVER THE INPUT: true; the input reads as it did. -/
def wireTurnedSpec : ChangeSpec := { name := "wireTurned", fn := fun _ => fun
  | [d1, d2, d3] => { results := [.lit (.bool true)], args := [d1, d2, d3] }
  | _ => none }
def wireTurnedRow : OpenClaim := { program := "ytblimjilinkmbaa", sum := "875d2c6afd8b92d519bd6253be772ed4bc839bee88f22081d9ee3a87d86344aa", func := "rentroll/rentrollkeep.WireTurned", spec := "wireTurned", unfollowed := true, recurses := true, apart := false }
def WireTurnedSaid : Prop := wireTurnedRow.holds Try.pinned (OpenSpec.ofChange wireTurnedSpec)

/-- ITS FALSE NEIGHBOUR: 'it returns false'. Refute it at one input. -/
def wireTurnedWrong : ChangeSpec := { name := "wireTurned", fn := fun _ => fun
  | [d1, d2, d3] => { results := [.lit (.bool false)], args := [d1, d2, d3] }
  | _ => none }
def WireTurnedWrongFalsely : Prop := wireTurnedRow.holds Try.pinned (OpenSpec.ofChange wireTurnedWrong)

/-- 'rentrolllaw.WireRefuses': WHATEVER THE INPUT: true; the input reads as it did. -/
def wireRefusesSpec : ChangeSpec := { name := "wireRefuses", fn := fun _ => fun
  | [d1, d2] => { results := [.lit (.bool true)], args := [d1, d2] }
  | _ => none }
def wireRefusesRow : OpenClaim := { program := "ytblimjilinkmbaa", sum := "875d2c6afd8b92d519bd6253be772ed4bc839bee88f22081d9ee3a87d86344aa", func := "rentroll/rentrolllaw.WireRefuses", spec := "wireRefuses", unfollowed := true, recurses := true, apart := false }
def WireRefusesSaid : Prop := wireRefusesRow.holds Try.pinned (OpenSpec.ofChange wireRefusesSpec)

/-- ITS FALSE NEIGHBOUR: 'it returns false'. Refute it at one input. -/
def wireRefusesWrong : ChangeSpec := { name := "wireRefuses", fn := fun _ => fun
  | [d1, d2] => { results := [.lit (.bool false)], args := [d1, d2] }
  | _ => none }
def WireRefusesWrongFalsely : Prop := wireRefusesRow.holds Try.pinned (OpenSpec.ofChange wireRefusesWrong)

/-- 'rentrollkeep.WireRefused': WHATEVER THE INPUT: true; the input reads as it did. -/
def wireRefusedSpec : ChangeSpec := { name := "wireRefused", fn := fun _ => fun
  | [d1, d2] => { results := [.lit (.bool true)], args := [d1, d2] }
  | _ => none }
def wireRefusedRow : OpenClaim := { program := "ytblimjilinkmbaa", sum := "875d2c6afd8b92d519bd6253be772ed4bc839bee88f22081d9ee3a87d86344aa", func := "rentroll/rentrollkeep.WireRefused", spec := "wireRefused", unfollowed := true, recurses := true, apart := false }
def WireRefusedSaid : Prop := wireRefusedRow.holds Try.pinned (OpenSpec.ofChange wireRefusedSpec)

/-- ITS FALSE NEIGHBOUR: 'it returns false'. Refute it at one input. -/
def wireRefusedWrong : ChangeSpec := { name := "wireRefused", fn := fun _ => fun
  | [d1, d2] => { results := [.lit (.bool false)], args := [d1, d2] }
  | _ => none }
def WireRefusedWrongFalsely : Prop := wireRefusedRow.holds Try.pinned (OpenSpec.ofChange wireRefusedWrong)

/-- 'rentrollkeep.WireAnew': WHATEVER THE INPUT: true; the input reads as it did. -/
def wireAnewSpec : ChangeSpec := { name := "wireAnew", fn := fun _ => fun
  | [d1, d2, d3, d4] => { results := [.lit (.bool true)], args := [d1, d2, d3, d4] }
  | _ => none }
def wireAnewRow : OpenClaim := { program := "ytblimjilinkmbaa", sum := "875d2c6afd8b92d519bd6253be772ed4bc839bee88f22081d9ee3a87d86344aa", func := "rentroll/rentrollkeep.WireAnew", spec := "wireAnew", unfollowed := true, recurses := true, apart := false }
def WireAnewSaid : Prop := wireAnewRow.holds Try.pinned (OpenSpec.ofChange wireAnewSpec)

/-- ITS FALSE NEIGHBOUR: 'it returns false'. Refute it at one input. -/
def wireAnewWrong : ChangeSpec := { name := "wireAnew", fn := fun _ => fun
  | [d1, d2, d3, d4] => { results := [.lit (.bool false)], args := [d1, d2, d3, d4] }
  | _ => none }
def WireAnewWrongFalsely : Prop := wireAnewRow.holds Try.pinned (OpenSpec.ofChange wireAnewWrong)

/-- 'rentrollkeep.WireRound': WHATEVER THE INPUT: true; the input reads as it did. -/
def wireRoundSpec : ChangeSpec := { name := "wireRound", fn := fun _ => fun
  | [d1, d2, d3, d4] => { results := [.lit (.bool true)], args := [d1, d2, d3, d4] }
  | _ => none }
def wireRoundRow : OpenClaim := { program := "ytblimjilinkmbaa", sum := "875d2c6afd8b92d519bd6253be772ed4bc839bee88f22081d9ee3a87d86344aa", func := "rentroll/rentrollkeep.WireRound", spec := "wireRound", unfollowed := true, recurses := true, apart := false }
def WireRoundSaid : Prop := wireRoundRow.holds Try.pinned (OpenSpec.ofChange wireRoundSpec)

/-- ITS FALSE NEIGHBOUR: 'it returns false'. Refute it at one input. -/
def wireRoundWrong : ChangeSpec := { name := "wireRound", fn := fun _ => fun
  | [d1, d2, d3, d4] => { results := [.lit (.bool false)], args := [d1, d2, d3, d4] }
  | _ => none }
def WireRoundWrongFalsely : Prop := wireRoundRow.holds Try.pinned (OpenSpec.ofChange wireRoundWrong)

/- THE SECOND FORM. 'bulk': how many values and letters a reading holds, each counted each time it is reached (what is shared counts as often as it is met; a slice's spare places count too). A statement '..UptoSaid' is the law's where the arguments, and the package variables that the reading takes, are together of bulk at most 1048576: NARROWER than '..Said'. Prove '..Said' where nothing that the law and all that it calls make is longer than what came in: it says more and counts as full. Else prove '..UptoSaid'. A law counts once. -/
mutual
def uptoBulk {H : Type} : DataW H → Nat
  | .lit (.string bytes) => bytes.length + 1
  | .lit _ => 1
  | .nil => 1
  | .ptr d => uptoBulk d + 1
  | .slice elems spare => uptoBulkAll elems + uptoBulkAll spare + 1
  | .agg parts => uptoBulkAll parts + 1
  | .iface _ d => uptoBulk d + 1
  | .map entries => uptoBulkEntries entries + 1
  | .held _ => 1
def uptoBulkAll {H : Type} : List (DataW H) → Nat
  | [] => 0
  | d :: r => uptoBulk d + uptoBulkAll r
def uptoBulkEntries {H : Type} : List (Lit × DataW H) → Nat
  | [] => 0
  | x :: r => uptoBulkEntry x + uptoBulkEntries r
def uptoBulkEntry {H : Type} : Lit × DataW H → Nat
  | (.string bytes, d) => bytes.length + uptoBulk d + 1
  | (_, d) => uptoBulk d + 1
 end
def uptoSmall : (H : Type) → List (DataW H) → Bool := fun _ ds => decide (uptoBulkAll ds ≤ 1048576)
def OpenSpec.upto (s : _root_.Go.ChangeSpec) : _root_.Go.OpenSpec := { _root_.Go.OpenSpec.ofChange s with cond := some uptoSmall }

/-- 'rentrolllaw.WireBuilds', WHERE WHAT IT READS IS OF BULK AT MOST 1048576: true; the input reads as it did. -/
def wireBuildsUptoRow : OpenClaim := { program := "ytblimjilinkmbaa", sum := "875d2c6afd8b92d519bd6253be772ed4bc839bee88f22081d9ee3a87d86344aa", func := "rentroll/rentrolllaw.WireBuilds", spec := "wireBuilds", unfollowed := true, recurses := true, apart := false, narrowed := true }
def WireBuildsUptoSaid : Prop := wireBuildsUptoRow.holds Try.pinned (OpenSpec.upto wireBuildsSpec)

/-- 'rentrolllaw.WireParses', WHERE WHAT IT READS IS OF BULK AT MOST 1048576: true; the input reads as it did. -/
def wireParsesUptoRow : OpenClaim := { program := "ytblimjilinkmbaa", sum := "875d2c6afd8b92d519bd6253be772ed4bc839bee88f22081d9ee3a87d86344aa", func := "rentroll/rentrolllaw.WireParses", spec := "wireParses", unfollowed := true, recurses := true, apart := false, narrowed := true }
def WireParsesUptoSaid : Prop := wireParsesUptoRow.holds Try.pinned (OpenSpec.upto wireParsesSpec)

/-- 'rentrollkeep.WireBack', WHERE WHAT IT READS IS OF BULK AT MOST 1048576: true; the input reads as it did. -/
def wireBackUptoRow : OpenClaim := { program := "ytblimjilinkmbaa", sum := "875d2c6afd8b92d519bd6253be772ed4bc839bee88f22081d9ee3a87d86344aa", func := "rentroll/rentrollkeep.WireBack", spec := "wireBack", unfollowed := true, recurses := true, apart := false, narrowed := true }
def WireBackUptoSaid : Prop := wireBackUptoRow.holds Try.pinned (OpenSpec.upto wireBackSpec)

/-- 'rentrollkeep.WireTurned', WHERE WHAT IT READS IS OF BULK AT MOST 1048576: true; the input reads as it did. -/
def wireTurnedUptoRow : OpenClaim := { program := "ytblimjilinkmbaa", sum := "875d2c6afd8b92d519bd6253be772ed4bc839bee88f22081d9ee3a87d86344aa", func := "rentroll/rentrollkeep.WireTurned", spec := "wireTurned", unfollowed := true, recurses := true, apart := false, narrowed := true }
def WireTurnedUptoSaid : Prop := wireTurnedUptoRow.holds Try.pinned (OpenSpec.upto wireTurnedSpec)

/-- 'rentrolllaw.WireRefuses', WHERE WHAT IT READS IS OF BULK AT MOST 1048576: true; the input reads as it did. -/
def wireRefusesUptoRow : OpenClaim := { program := "ytblimjilinkmbaa", sum := "875d2c6afd8b92d519bd6253be772ed4bc839bee88f22081d9ee3a87d86344aa", func := "rentroll/rentrolllaw.WireRefuses", spec := "wireRefuses", unfollowed := true, recurses := true, apart := false, narrowed := true }
def WireRefusesUptoSaid : Prop := wireRefusesUptoRow.holds Try.pinned (OpenSpec.upto wireRefusesSpec)

/-- 'rentrollkeep.WireRefused', WHERE WHAT IT READS IS OF BULK AT MOST 1048576: true; the input reads as it did. -/
def wireRefusedUptoRow : OpenClaim := { program := "ytblimjilinkmbaa", sum := "875d2c6afd8b92d519bd6253be772ed4bc839bee88f22081d9ee3a87d86344aa", func := "rentroll/rentrollkeep.WireRefused", spec := "wireRefused", unfollowed := true, recurses := true, apart := false, narrowed := true }
def WireRefusedUptoSaid : Prop := wireRefusedUptoRow.holds Try.pinned (OpenSpec.upto wireRefusedSpec)

/-- 'rentrollkeep.WireAnew', WHERE WHAT IT READS IS OF BULK AT MOST 1048576: true; the input reads as it did. -/
def wireAnewUptoRow : OpenClaim := { program := "ytblimjilinkmbaa", sum := "875d2c6afd8b92d519bd6253be772ed4bc839bee88f22081d9ee3a87d86344aa", func := "rentroll/rentrollkeep.WireAnew", spec := "wireAnew", unfollowed := true, recurses := true, apart := false, narrowed := true }
def WireAnewUptoSaid : Prop := wireAnewUptoRow.holds Try.pinned (OpenSpec.upto wireAnewSpec)

/-- 'rentrollkeep.WireRound', WHERE WHAT IT READS IS OF BULK AT MOST 1048576: true; the input reads as it did. -/
def wireRoundUptoRow : OpenClaim := { program := "ytblimjilinkmbaa", sum := "875d2c6afd8b92d519bd6253be772ed4bc839bee88f22081d9ee3a87d86344aa", func := "rentroll/rentrollkeep.WireRound", spec := "wireRound", unfollowed := true, recurses := true, apart := false, narrowed := true }
def WireRoundUptoSaid : Prop := wireRoundUptoRow.holds Try.pinned (OpenSpec.upto wireRoundSpec)

end Rows
end Go.Proofs.Ytblimjilinkmbaa
