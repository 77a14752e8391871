/-
  No cell of these rows narrows 'for every input' (looked for: loops, veiled, ifaces, maps, wideKeys, modest, calm, conditions, laid).
  DERIVED. THE GIVEN ROWS OF THIS SEAT. 5 by the template 'for every input the law returns true; each argument reads behind the call as it read before'; 0 by the template 'total and deterministic' (their statements: YtldeiolmpmcanaaTotals.lean).
  GIVEN WITH THE SEED: the statements are not yours to turn. If you find one false, say at which input.
  Laid BY PROGRAM, IN A SANDBOX (cutbox-rows.mjs): the forced cells as the released guide's own fill.sh prints them over the translation 0402fcea882d61d7… (all of the seat's roots in one cut). By AI agents, Wed Nov 11 2026. No macro, syntax, notation, axiom, sorry.
-/
import Derived.Test.YtldeiolmpmcanaaChecked
import GoSem.Claim
import GoSem.ClaimJoined
import GoSem.ClaimMapViews
import Derived.JoinedTies
import Derived.KernelRfl
namespace Go.Proofs.Ytldeiolmpmcanaa
/- THE CELL 'sum', in the pinned program and in every row, IS THE sha256 OF THE DUMP (.gsa) THAT YtldeiolmpmcanaaProg.lean LOADS. Nothing in Lean hashes anything: it is a label: what it is worth is what the hold of that sum in a sandbox is worth. -/
noncomputable def Try.pinned : Pinned := { name := "ytldeiolmpmcanaa", sum := "0402fcea882d61d7893f1fa122a61a31f296868ecc41df90d23147867ac5e9cc", checked := Try.checked }
namespace Rows
def none {H : Type} : Left H := { results := [], args := [] }

/-- 'rentrollkeep.TrackRuns': WHATEVER THE INPUT: true; the input reads as it did. -/
def trackRunsSpec : ChangeSpec := { name := "trackRuns", fn := fun _ => fun
  | [d] => { results := [.lit (.bool true)], args := [d] }
  | _ => none }
def trackRunsRow : OpenClaim := { program := "ytldeiolmpmcanaa", sum := "0402fcea882d61d7893f1fa122a61a31f296868ecc41df90d23147867ac5e9cc", func := "rentroll/rentrollkeep.TrackRuns", spec := "trackRuns", apart := false }
def TrackRunsSaid : Prop := trackRunsRow.holds Try.pinned (OpenSpec.ofChange trackRunsSpec)

/-- ITS FALSE NEIGHBOUR: 'it returns false'. Refute it at one input. -/
def trackRunsWrong : ChangeSpec := { name := "trackRuns", fn := fun _ => fun
  | [d] => { results := [.lit (.bool false)], args := [d] }
  | _ => none }
def TrackRunsWrongFalsely : Prop := trackRunsRow.holds Try.pinned (OpenSpec.ofChange trackRunsWrong)

/-- 'rentrollkeep.PoolRound': WHATEVER THE INPUT: true; the input reads as it did. -/
def poolRoundSpec : ChangeSpec := { name := "poolRound", fn := fun _ => fun
  | [d1, d2, d3, d4] => { results := [.lit (.bool true)], args := [d1, d2, d3, d4] }
  | _ => none }
def poolRoundRow : OpenClaim := { program := "ytldeiolmpmcanaa", sum := "0402fcea882d61d7893f1fa122a61a31f296868ecc41df90d23147867ac5e9cc", func := "rentroll/rentrollkeep.PoolRound", spec := "poolRound", apart := false }
def PoolRoundSaid : Prop := poolRoundRow.holds Try.pinned (OpenSpec.ofChange poolRoundSpec)

/-- ITS FALSE NEIGHBOUR: 'it returns false'. Refute it at one input. -/
def poolRoundWrong : ChangeSpec := { name := "poolRound", fn := fun _ => fun
  | [d1, d2, d3, d4] => { results := [.lit (.bool false)], args := [d1, d2, d3, d4] }
  | _ => none }
def PoolRoundWrongFalsely : Prop := poolRoundRow.holds Try.pinned (OpenSpec.ofChange poolRoundWrong)

/-- 'rentrolllaw.PoolTakes': WHATEVER THE INPUT: true; the input reads as it did. -/
def poolTakesSpec : ChangeSpec := { name := "poolTakes", fn := fun _ => fun
  | [d1, d2, d3, d4] => { results := [.lit (.bool true)], args := [d1, d2, d3, d4] }
  | _ => none }
def poolTakesRow : OpenClaim := { program := "ytldeiolmpmcanaa", sum := "0402fcea882d61d7893f1fa122a61a31f296868ecc41df90d23147867ac5e9cc", func := "rentroll/rentrolllaw.PoolTakes", spec := "poolTakes", apart := false }
def PoolTakesSaid : Prop := poolTakesRow.holds Try.pinned (OpenSpec.ofChange poolTakesSpec)

/-- ITS FALSE NEIGHBOUR: 'it returns false'. Refute it at one input. -/
def poolTakesWrong : ChangeSpec := { name := "poolTakes", fn := fun _ => fun
  | [d1, d2, d3, d4] => { results := [.lit (.bool false)], args := [d1, d2, d3, d4] }
  | _ => none }
def PoolTakesWrongFalsely : Prop := poolTakesRow.holds Try.pinned (OpenSpec.ofChange poolTakesWrong)

/-- 'rentrolllaw.PoolGives': WHATEVER THE INPUT: true; the input reads as it did. -/
def poolGivesSpec : ChangeSpec := { name := "poolGives", fn := fun _ => fun
  | [d1, d2, d3, d4] => { results := [.lit (.bool true)], args := [d1, d2, d3, d4] }
  | _ => none }
def poolGivesRow : OpenClaim := { program := "ytldeiolmpmcanaa", sum := "0402fcea882d61d7893f1fa122a61a31f296868ecc41df90d23147867ac5e9cc", func := "rentroll/rentrolllaw.PoolGives", spec := "poolGives", apart := false }
def PoolGivesSaid : Prop := poolGivesRow.holds Try.pinned (OpenSpec.ofChange poolGivesSpec)

/-- ITS FALSE NEIGHBOUR: 'it returns false'. Refute it at one input. -/
def poolGivesWrong : ChangeSpec := { name := "poolGives", fn := fun _ => fun
  | [d1, d2, d3, d4] => { results := [.lit (.bool false)], args := [d1, d2, d3, d4] }
  | _ => none }
def PoolGivesWrongFalsely : Prop := poolGivesRow.holds Try.pinned (OpenSpec.ofChange poolGivesWrong)

/-- 'rentrollkeep.PoolDrained': WHATEVER THE INPUT: true; the input reads as it did. -/
def poolDrainedSpec : ChangeSpec := { name := "poolDrained", fn := fun _ => fun
  | [d1, d2, d3] => { results := [.lit (.bool true)], args := [d1, d2, d3] }
  | _ => none }
def poolDrainedRow : OpenClaim := { program := "ytldeiolmpmcanaa", sum := "0402fcea882d61d7893f1fa122a61a31f296868ecc41df90d23147867ac5e9cc", func := "rentroll/rentrollkeep.PoolDrained", spec := "poolDrained", apart := false }
def PoolDrainedSaid : Prop := poolDrainedRow.holds Try.pinned (OpenSpec.ofChange poolDrainedSpec)

/-- ITS FALSE NEIGHBOUR: 'it returns false'. Refute it at one input. -/
def poolDrainedWrong : ChangeSpec := { name := "poolDrained", fn := fun _ => fun
  | [d1, d2, d3] => { results := [.lit (.bool false)], args := [d1, d2, d3] }
  | _ => none }
def PoolDrainedWrongFalsely : Prop := poolDrainedRow.holds Try.pinned (OpenSpec.ofChange poolDrainedWrong)

/- THE SECOND FORM. 'bulk': how many values and letters a reading holds, each counted each time it is reached (what is shared counts as often as it is met; a slice's spare places count too). A statement '..UptoSaid' is the law's where the arguments, and the package variables that the reading takes, are together of bulk at most 1048576: NARROWER than '..Said'. Prove '..Said' where nothing that the law and all that it calls make is longer than what came in: it says more and counts as full. Else prove '..UptoSaid'. A law counts once. -/
mutual
def uptoBulk {H : Type} : DataW H → Nat
  | .lit (.string bytes) => bytes.length + 1
  | .lit _ => 1
  | .nil => 1
  | .ptr d => uptoBulk d + 1
  | .slice elems spare => uptoBulkAll elems + uptoBulkAll spare + 1
  | .agg parts => uptoBulkAll parts + 1
  | .iface _ d => uptoBulk d + 1
  | .map entries => uptoBulkEntries entries + 1
  | .held _ => 1
def uptoBulkAll {H : Type} : List (DataW H) → Nat
  | [] => 0
  | d :: r => uptoBulk d + uptoBulkAll r
def uptoBulkEntries {H : Type} : List (Lit × DataW H) → Nat
  | [] => 0
  | x :: r => uptoBulkEntry x + uptoBulkEntries r
def uptoBulkEntry {H : Type} : Lit × DataW H → Nat
  | (.string bytes, d) => bytes.length + uptoBulk d + 1
  | (_, d) => uptoBulk d + 1
 end
def uptoSmall : (H : Type) → List (DataW H) → Bool := fun _ ds => decide (uptoBulkAll ds ≤ 1048576)
def OpenSpec.upto (s : _root_.Go.ChangeSpec) : _root_.Go.OpenSpec := { _root_.Go.OpenSpec.ofChange s with cond := some uptoSmall }

/-- 'rentrollkeep.TrackRuns', WHERE WHAT IT READS IS OF BULK AT MOST 1048576: true; the input reads as it did. -/
def trackRunsUptoRow : OpenClaim := { program := "ytldeiolmpmcanaa", sum := "0402fcea882d61d7893f1fa122a61a31f296868ecc41df90d23147867ac5e9cc", func := "rentroll/rentrollkeep.TrackRuns", spec := "trackRuns", apart := false, narrowed := true }
def TrackRunsUptoSaid : Prop := trackRunsUptoRow.holds Try.pinned (OpenSpec.upto trackRunsSpec)

/-- 'rentrollkeep.PoolRound', WHERE WHAT IT READS IS OF BULK AT MOST 1048576: true; the input reads as it did. -/
def poolRoundUptoRow : OpenClaim := { program := "ytldeiolmpmcanaa", sum := "0402fcea882d61d7893f1fa122a61a31f296868ecc41df90d23147867ac5e9cc", func := "rentroll/rentrollkeep.PoolRound", spec := "poolRound", apart := false, narrowed := true }
def PoolRoundUptoSaid : Prop := poolRoundUptoRow.holds Try.pinned (OpenSpec.upto poolRoundSpec)

/-- 'rentrolllaw.PoolTakes', WHERE WHAT IT READS IS OF BULK AT MOST 1048576: true; the input reads as it did. -/
def poolTakesUptoRow : OpenClaim := { program := "ytldeiolmpmcanaa", sum := "0402fcea882d61d7893f1fa122a61a31f296868ecc41df90d23147867ac5e9cc", func := "rentroll/rentrolllaw.PoolTakes", spec := "poolTakes", apart := false, narrowed := true }
def PoolTakesUptoSaid : Prop := poolTakesUptoRow.holds Try.pinned (OpenSpec.upto poolTakesSpec)

/-- 'rentrolllaw.PoolGives', WHERE WHAT IT READS IS OF BULK AT MOST 1048576: true; the input reads as it did. -/
def poolGivesUptoRow : OpenClaim := { program := "ytldeiolmpmcanaa", sum := "0402fcea882d61d7893f1fa122a61a31f296868ecc41df90d23147867ac5e9cc", func := "rentroll/rentrolllaw.PoolGives", spec := "poolGives", apart := false, narrowed := true }
def PoolGivesUptoSaid : Prop := poolGivesUptoRow.holds Try.pinned (OpenSpec.upto poolGivesSpec)

/-- 'rentrollkeep.PoolDrained', WHERE WHAT IT READS IS OF BULK AT MOST 1048576: true; the input reads as it did. -/
def poolDrainedUptoRow : OpenClaim := { program := "ytldeiolmpmcanaa", sum := "0402fcea882d61d7893f1fa122a61a31f296868ecc41df90d23147867ac5e9cc", func := "rentroll/rentrollkeep.PoolDrained", spec := "poolDrained", apart := false, narrowed := true }
def PoolDrainedUptoSaid : Prop := poolDrainedUptoRow.holds Try.pinned (OpenSpec.upto poolDrainedSpec)

end Rows
end Go.Proofs.Ytldeiolmpmcanaa
