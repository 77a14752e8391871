/-
  No cell of these rows narrows 'for every input' (looked for: loops, veiled, ifaces, maps, wideKeys, modest, calm, conditions, laid).
  DERIVED. THE GIVEN ROWS OF THIS SEAT. 10 by the template 'for every input the law returns true; each argument reads behind the call as it read before'; 0 by the template 'total and deterministic' (their statements: YtphaicaobepimaaTotals.lean).
  GIVEN WITH THE SEED: the statements are not yours to turn. If you find one false, say at which input.
  Laid BY PROGRAM, IN A SANDBOX (cutbox-rows.mjs): the forced cells as the released guide's own fill.sh prints them over the translation 196364ea5c21da5a… (all of the seat's roots in one cut). By AI agents, Wed Nov 11 2026. No macro, syntax, notation, axiom, sorry.
-/
import Derived.Test.YtphaicaobepimaaChecked
import GoSem.Claim
import GoSem.ClaimJoined
import GoSem.ClaimMapViews
import Derived.JoinedTies
import Derived.KernelRfl
namespace Go.Proofs.Ytphaicaobepimaa
/- THE CELL 'sum', in the pinned program and in every row, IS THE sha256 OF THE DUMP (.gsa) THAT YtphaicaobepimaaProg.lean LOADS. Nothing in Lean hashes anything: it is a label: what it is worth is what the hold of that sum in a sandbox is worth. -/
noncomputable def Try.pinned : Pinned := { name := "ytphaicaobepimaa", sum := "196364ea5c21da5ad20024f5ea5e48b94b8963550f67a5e02d2920cd863357e8", checked := Try.checked }
namespace Rows
def none {H : Type} : Left H := { results := [], args := [] }

/-- 'rentrolllaw.BindFinds': WHATEVER THE INPUT: true; the input reads as it did. -/
def bindFindsSpec : ChangeSpec := { name := "bindFinds", fn := fun _ => fun
  | [d1, d2, d3, d4, d5, d6] => { results := [.lit (.bool true)], args := [d1, d2, d3, d4, d5, d6] }
  | _ => none }
def bindFindsRow : OpenClaim := { program := "ytphaicaobepimaa", sum := "196364ea5c21da5ad20024f5ea5e48b94b8963550f67a5e02d2920cd863357e8", func := "rentroll/rentrolllaw.BindFinds", spec := "bindFinds", unfollowed := true, recurses := true, plainKeys := false, apart := false }
def BindFindsSaid : Prop := bindFindsRow.holds Try.pinned (OpenSpec.ofChange bindFindsSpec)

/-- ITS FALSE NEIGHBOUR: 'it returns false'. Refute it at one input. -/
def bindFindsWrong : ChangeSpec := { name := "bindFinds", fn := fun _ => fun
  | [d1, d2, d3, d4, d5, d6] => { results := [.lit (.bool false)], args := [d1, d2, d3, d4, d5, d6] }
  | _ => none }
def BindFindsWrongFalsely : Prop := bindFindsRow.holds Try.pinned (OpenSpec.ofChange bindFindsWrong)

/-- 'rentrolllaw.BindOpens': WHATEVER THE INPUT: true; the input reads as it did. -/
def bindOpensSpec : ChangeSpec := { name := "bindOpens", fn := fun _ => fun
  | [d1, d2, d3, d4, d5] => { results := [.lit (.bool true)], args := [d1, d2, d3, d4, d5] }
  | _ => none }
def bindOpensRow : OpenClaim := { program := "ytphaicaobepimaa", sum := "196364ea5c21da5ad20024f5ea5e48b94b8963550f67a5e02d2920cd863357e8", func := "rentroll/rentrolllaw.BindOpens", spec := "bindOpens", unfollowed := true, recurses := true, plainKeys := false, apart := false }
def BindOpensSaid : Prop := bindOpensRow.holds Try.pinned (OpenSpec.ofChange bindOpensSpec)

/-- ITS FALSE NEIGHBOUR: 'it returns false'. Refute it at one input. -/
def bindOpensWrong : ChangeSpec := { name := "bindOpens", fn := fun _ => fun
  | [d1, d2, d3, d4, d5] => { results := [.lit (.bool false)], args := [d1, d2, d3, d4, d5] }
  | _ => none }
def BindOpensWrongFalsely : Prop := bindOpensRow.holds Try.pinned (OpenSpec.ofChange bindOpensWrong)

/-- 'rentrollkeep.BindOthers': WHATEVER THE INPUT: true; the input reads as it did. -/
def bindOthersSpec : ChangeSpec := { name := "bindOthers", fn := fun _ => fun
  | [d1, d2, d3, d4, d5] => { results := [.lit (.bool true)], args := [d1, d2, d3, d4, d5] }
  | _ => none }
def bindOthersRow : OpenClaim := { program := "ytphaicaobepimaa", sum := "196364ea5c21da5ad20024f5ea5e48b94b8963550f67a5e02d2920cd863357e8", func := "rentroll/rentrollkeep.BindOthers", spec := "bindOthers", unfollowed := true, recurses := true, plainKeys := false, apart := false }
def BindOthersSaid : Prop := bindOthersRow.holds Try.pinned (OpenSpec.ofChange bindOthersSpec)

/-- ITS FALSE NEIGHBOUR: 'it returns false'. Refute it at one input. -/
def bindOthersWrong : ChangeSpec := { name := "bindOthers", fn := fun _ => fun
  | [d1, d2, d3, d4, d5] => { results := [.lit (.bool false)], args := [d1, d2, d3, d4, d5] }
  | _ => none }
def BindOthersWrongFalsely : Prop := bindOthersRow.holds Try.pinned (OpenSpec.ofChange bindOthersWrong)

/-- 'rentrolllaw.BindCloses': WHATEVER THE INPUT: true; the input reads as it did. -/
def bindClosesSpec : ChangeSpec := { name := "bindCloses", fn := fun _ => fun
  | [d1, d2] => { results := [.lit (.bool true)], args := [d1, d2] }
  | _ => none }
def bindClosesRow : OpenClaim := { program := "ytphaicaobepimaa", sum := "196364ea5c21da5ad20024f5ea5e48b94b8963550f67a5e02d2920cd863357e8", func := "rentroll/rentrolllaw.BindCloses", spec := "bindCloses", unfollowed := true, recurses := true, plainKeys := false, apart := false }
def BindClosesSaid : Prop := bindClosesRow.holds Try.pinned (OpenSpec.ofChange bindClosesSpec)

/-- ITS FALSE NEIGHBOUR: 'it returns false'. Refute it at one input. -/
def bindClosesWrong : ChangeSpec := { name := "bindCloses", fn := fun _ => fun
  | [d1, d2] => { results := [.lit (.bool false)], args := [d1, d2] }
  | _ => none }
def BindClosesWrongFalsely : Prop := bindClosesRow.holds Try.pinned (OpenSpec.ofChange bindClosesWrong)

/-- 'rentrollkeep.BindRound': WHATEVER THE INPUT: true; the input reads as it did. -/
def bindRoundSpec : ChangeSpec := { name := "bindRound", fn := fun _ => fun
  | [d1, d2, d3, d4, d5] => { results := [.lit (.bool true)], args := [d1, d2, d3, d4, d5] }
  | _ => none }
def bindRoundRow : OpenClaim := { program := "ytphaicaobepimaa", sum := "196364ea5c21da5ad20024f5ea5e48b94b8963550f67a5e02d2920cd863357e8", func := "rentroll/rentrollkeep.BindRound", spec := "bindRound", unfollowed := true, recurses := true, plainKeys := false, apart := false }
def BindRoundSaid : Prop := bindRoundRow.holds Try.pinned (OpenSpec.ofChange bindRoundSpec)

/-- ITS FALSE NEIGHBOUR: 'it returns false'. Refute it at one input. -/
def bindRoundWrong : ChangeSpec := { name := "bindRound", fn := fun _ => fun
  | [d1, d2, d3, d4, d5] => { results := [.lit (.bool false)], args := [d1, d2, d3, d4, d5] }
  | _ => none }
def BindRoundWrongFalsely : Prop := bindRoundRow.holds Try.pinned (OpenSpec.ofChange bindRoundWrong)

/-- 'rentrollkeep.BindPlays': WHATEVER THE INPUT: true; the input reads as it did. -/
def bindPlaysSpec : ChangeSpec := { name := "bindPlays", fn := fun _ => fun
  | [d] => { results := [.lit (.bool true)], args := [d] }
  | _ => none }
def bindPlaysRow : OpenClaim := { program := "ytphaicaobepimaa", sum := "196364ea5c21da5ad20024f5ea5e48b94b8963550f67a5e02d2920cd863357e8", func := "rentroll/rentrollkeep.BindPlays", spec := "bindPlays", unfollowed := true, recurses := true, plainKeys := false, apart := false }
def BindPlaysSaid : Prop := bindPlaysRow.holds Try.pinned (OpenSpec.ofChange bindPlaysSpec)

/-- ITS FALSE NEIGHBOUR: 'it returns false'. Refute it at one input. -/
def bindPlaysWrong : ChangeSpec := { name := "bindPlays", fn := fun _ => fun
  | [d] => { results := [.lit (.bool false)], args := [d] }
  | _ => none }
def BindPlaysWrongFalsely : Prop := bindPlaysRow.holds Try.pinned (OpenSpec.ofChange bindPlaysWrong)

/-- 'rentrollkeep.WheelOnce': WHATEVER THE INPUT: true; the input reads as it did. -/
def wheelOnceSpec : ChangeSpec := { name := "wheelOnce", fn := fun _ => fun
  | [d1, d2, d3] => { results := [.lit (.bool true)], args := [d1, d2, d3] }
  | _ => none }
def wheelOnceRow : OpenClaim := { program := "ytphaicaobepimaa", sum := "196364ea5c21da5ad20024f5ea5e48b94b8963550f67a5e02d2920cd863357e8", func := "rentroll/rentrollkeep.WheelOnce", spec := "wheelOnce", unfollowed := true, recurses := true, plainKeys := false, apart := false }
def WheelOnceSaid : Prop := wheelOnceRow.holds Try.pinned (OpenSpec.ofChange wheelOnceSpec)

/-- ITS FALSE NEIGHBOUR: 'it returns false'. Refute it at one input. -/
def wheelOnceWrong : ChangeSpec := { name := "wheelOnce", fn := fun _ => fun
  | [d1, d2, d3] => { results := [.lit (.bool false)], args := [d1, d2, d3] }
  | _ => none }
def WheelOnceWrongFalsely : Prop := wheelOnceRow.holds Try.pinned (OpenSpec.ofChange wheelOnceWrong)

/-- 'rentrollkeep.WheelSteps': WHATEVER THE INPUT: true; the input reads as it did. -/
def wheelStepsSpec : ChangeSpec := { name := "wheelSteps", fn := fun _ => fun
  | [d1, d2, d3] => { results := [.lit (.bool true)], args := [d1, d2, d3] }
  | _ => none }
def wheelStepsRow : OpenClaim := { program := "ytphaicaobepimaa", sum := "196364ea5c21da5ad20024f5ea5e48b94b8963550f67a5e02d2920cd863357e8", func := "rentroll/rentrollkeep.WheelSteps", spec := "wheelSteps", unfollowed := true, recurses := true, plainKeys := false, apart := false }
def WheelStepsSaid : Prop := wheelStepsRow.holds Try.pinned (OpenSpec.ofChange wheelStepsSpec)

/-- ITS FALSE NEIGHBOUR: 'it returns false'. Refute it at one input. -/
def wheelStepsWrong : ChangeSpec := { name := "wheelSteps", fn := fun _ => fun
  | [d1, d2, d3] => { results := [.lit (.bool false)], args := [d1, d2, d3] }
  | _ => none }
def WheelStepsWrongFalsely : Prop := wheelStepsRow.holds Try.pinned (OpenSpec.ofChange wheelStepsWrong)

/-- 'rentrolllaw.WheelNil': WHATEVER THE INPUT: true; the input reads as it did. -/
def wheelNilSpec : ChangeSpec := { name := "wheelNil", fn := fun _ => fun
  | [d1, d2] => { results := [.lit (.bool true)], args := [d1, d2] }
  | _ => none }
def wheelNilRow : OpenClaim := { program := "ytphaicaobepimaa", sum := "196364ea5c21da5ad20024f5ea5e48b94b8963550f67a5e02d2920cd863357e8", func := "rentroll/rentrolllaw.WheelNil", spec := "wheelNil", unfollowed := true, recurses := true, plainKeys := false, apart := false }
def WheelNilSaid : Prop := wheelNilRow.holds Try.pinned (OpenSpec.ofChange wheelNilSpec)

/-- ITS FALSE NEIGHBOUR: 'it returns false'. Refute it at one input. -/
def wheelNilWrong : ChangeSpec := { name := "wheelNil", fn := fun _ => fun
  | [d1, d2] => { results := [.lit (.bool false)], args := [d1, d2] }
  | _ => none }
def WheelNilWrongFalsely : Prop := wheelNilRow.holds Try.pinned (OpenSpec.ofChange wheelNilWrong)

/-- 'rentrolllaw.WheelPlays': WHATEVER THE INPUT: true; the input reads as it did. -/
def wheelPlaysSpec : ChangeSpec := { name := "wheelPlays", fn := fun _ => fun
  | [d1, d2] => { results := [.lit (.bool true)], args := [d1, d2] }
  | _ => none }
def wheelPlaysRow : OpenClaim := { program := "ytphaicaobepimaa", sum := "196364ea5c21da5ad20024f5ea5e48b94b8963550f67a5e02d2920cd863357e8", func := "rentroll/rentrolllaw.WheelPlays", spec := "wheelPlays", unfollowed := true, recurses := true, plainKeys := false, apart := false }
def WheelPlaysSaid : Prop := wheelPlaysRow.holds Try.pinned (OpenSpec.ofChange wheelPlaysSpec)

/-- ITS FALSE NEIGHBOUR: 'it returns false'. Refute it at one input. -/
def wheelPlaysWrong : ChangeSpec := { name := "wheelPlays", fn := fun _ => fun
  | [d1, d2] => { results := [.lit (.bool false)], args := [d1, d2] }
  | _ => none }
def WheelPlaysWrongFalsely : Prop := wheelPlaysRow.holds Try.pinned (OpenSpec.ofChange wheelPlaysWrong)

/- THE SECOND FORM. 'bulk': how many values and letters a reading holds, each counted each time it is reached (what is shared counts as often as it is met; a slice's spare places count too). A statement '..UptoSaid' is the law's where the arguments, and the package variables that the reading takes, are together of bulk at most 1048576: NARROWER than '..Said'. Prove '..Said' where nothing that the law and all that it calls make is longer than what came in: it says more and counts as full. Else prove '..UptoSaid'. A law counts once. -/
mutual
def uptoBulk {H : Type} : DataW H → Nat
  | .lit (.string bytes) => bytes.length + 1
  | .lit _ => 1
  | .nil => 1
  | .ptr d => uptoBulk d + 1
  | .slice elems spare => uptoBulkAll elems + uptoBulkAll spare + 1
  | .agg parts => uptoBulkAll parts + 1
  | .iface _ d => uptoBulk d + 1
  | .map entries => uptoBulkEntries entries + 1
  | .held _ => 1
def uptoBulkAll {H : Type} : List (DataW H) → Nat
  | [] => 0
  | d :: r => uptoBulk d + uptoBulkAll r
def uptoBulkEntries {H : Type} : List (Lit × DataW H) → Nat
  | [] => 0
  | x :: r => uptoBulkEntry x + uptoBulkEntries r
def uptoBulkEntry {H : Type} : Lit × DataW H → Nat
  | (.string bytes, d) => bytes.length + uptoBulk d + 1
  | (_, d) => uptoBulk d + 1
 end
def uptoSmall : (H : Type) → List (DataW H) → Bool := fun _ ds => decide (uptoBulkAll ds ≤ 1048576)
def OpenSpec.upto (s : _root_.Go.ChangeSpec) : _root_.Go.OpenSpec := { _root_.Go.OpenSpec.ofChange s with cond := some uptoSmall }

/-- 'rentrolllaw.BindFinds', WHERE WHAT IT READS IS OF BULK AT MOST 1048576: true; the input reads as it did. -/
def bindFindsUptoRow : OpenClaim := { program := "ytphaicaobepimaa", sum := "196364ea5c21da5ad20024f5ea5e48b94b8963550f67a5e02d2920cd863357e8", func := "rentroll/rentrolllaw.BindFinds", spec := "bindFinds", unfollowed := true, recurses := true, plainKeys := false, apart := false, narrowed := true }
def BindFindsUptoSaid : Prop := bindFindsUptoRow.holds Try.pinned (OpenSpec.upto bindFindsSpec)

/-- 'rentrolllaw.BindOpens', WHERE WHAT IT READS IS OF BULK AT MOST 1048576: true; the input reads as it did. -/
def bindOpensUptoRow : OpenClaim := { program := "ytphaicaobepimaa", sum := "196364ea5c21da5ad20024f5ea5e48b94b8963550f67a5e02d2920cd863357e8", func := "rentroll/rentrolllaw.BindOpens", spec := "bindOpens", unfollowed := true, recurses := true, plainKeys := false, apart := false, narrowed := true }
def BindOpensUptoSaid : Prop := bindOpensUptoRow.holds Try.pinned (OpenSpec.upto bindOpensSpec)

/-- 'rentrollkeep.BindOthers', WHERE WHAT IT READS IS OF BULK AT MOST 1048576: true; the input reads as it did. -/
def bindOthersUptoRow : OpenClaim := { program := "ytphaicaobepimaa", sum := "196364ea5c21da5ad20024f5ea5e48b94b8963550f67a5e02d2920cd863357e8", func := "rentroll/rentrollkeep.BindOthers", spec := "bindOthers", unfollowed := true, recurses := true, plainKeys := false, apart := false, narrowed := true }
def BindOthersUptoSaid : Prop := bindOthersUptoRow.holds Try.pinned (OpenSpec.upto bindOthersSpec)

/-- 'rentrolllaw.BindCloses', WHERE WHAT IT READS IS OF BULK AT MOST 1048576: true; the input reads as it did. -/
def bindClosesUptoRow : OpenClaim := { program := "ytphaicaobepimaa", sum := "196364ea5c21da5ad20024f5ea5e48b94b8963550f67a5e02d2920cd863357e8", func := "rentroll/rentrolllaw.BindCloses", spec := "bindCloses", unfollowed := true, recurses := true, plainKeys := false, apart := false, narrowed := true }
def BindClosesUptoSaid : Prop := bindClosesUptoRow.holds Try.pinned (OpenSpec.upto bindClosesSpec)

/-- 'rentrollkeep.BindRound', WHERE WHAT IT READS IS OF BULK AT MOST 1048576: true; the input reads as it did. -/
def bindRoundUptoRow : OpenClaim := { program := "ytphaicaobepimaa", sum := "196364ea5c21da5ad20024f5ea5e48b94b8963550f67a5e02d2920cd863357e8", func := "rentroll/rentrollkeep.BindRound", spec := "bindRound", unfollowed := true, recurses := true, plainKeys := false, apart := false, narrowed := true }
def BindRoundUptoSaid : Prop := bindRoundUptoRow.holds Try.pinned (OpenSpec.upto bindRoundSpec)

/-- 'rentrollkeep.BindPlays', WHERE WHAT IT READS IS OF BULK AT MOST 1048576: true; the input reads as it did. -/
def bindPlaysUptoRow : OpenClaim := { program := "ytphaicaobepimaa", sum := "196364ea5c21da5ad20024f5ea5e48b94b8963550f67a5e02d2920cd863357e8", func := "rentroll/rentrollkeep.BindPlays", spec := "bindPlays", unfollowed := true, recurses := true, plainKeys := false, apart := false, narrowed := true }
def BindPlaysUptoSaid : Prop := bindPlaysUptoRow.holds Try.pinned (OpenSpec.upto bindPlaysSpec)

/-- 'rentrollkeep.WheelOnce', WHERE WHAT IT READS IS OF BULK AT MOST 1048576: true; the input reads as it did. -/
def wheelOnceUptoRow : OpenClaim := { program := "ytphaicaobepimaa", sum := "196364ea5c21da5ad20024f5ea5e48b94b8963550f67a5e02d2920cd863357e8", func := "rentroll/rentrollkeep.WheelOnce", spec := "wheelOnce", unfollowed := true, recurses := true, plainKeys := false, apart := false, narrowed := true }
def WheelOnceUptoSaid : Prop := wheelOnceUptoRow.holds Try.pinned (OpenSpec.upto wheelOnceSpec)

/-- 'rentrollkeep.WheelSteps', WHERE WHAT IT READS IS OF BULK AT MOST 1048576: true; the input reads as it did. -/
def wheelStepsUptoRow : OpenClaim := { program := "ytphaicaobepimaa", sum := "196364ea5c21da5ad20024f5ea5e48b94b8963550f67a5e02d2920cd863357e8", func := "rentroll/rentrollkeep.WheelSteps", spec := "wheelSteps", unfollowed := true, recurses := true, plainKeys := false, apart := false, narrowed := true }
def WheelStepsUptoSaid : Prop := wheelStepsUptoRow.holds Try.pinned (OpenSpec.upto wheelStepsSpec)

/-- 'rentrolllaw.WheelNil', WHERE WHAT IT READS IS OF BULK AT MOST 1048576: true; the input reads as it did. -/
def wheelNilUptoRow : OpenClaim := { program := "ytphaicaobepimaa", sum := "196364ea5c21da5ad20024f5ea5e48b94b8963550f67a5e02d2920cd863357e8", func := "rentroll/rentrolllaw.WheelNil", spec := "wheelNil", unfollowed := true, recurses := true, plainKeys := false, apart := false, narrowed := true }
def WheelNilUptoSaid : Prop := wheelNilUptoRow.holds Try.pinned (OpenSpec.upto wheelNilSpec)

/-- 'rentrolllaw.WheelPlays', WHERE WHAT IT READS IS OF BULK AT MOST 1048576: true; the input reads as it did. -/
def wheelPlaysUptoRow : OpenClaim := { program := "ytphaicaobepimaa", sum := "196364ea5c21da5ad20024f5ea5e48b94b8963550f67a5e02d2920cd863357e8", func := "rentroll/rentrolllaw.WheelPlays", spec := "wheelPlays", unfollowed := true, recurses := true, plainKeys := false, apart := false, narrowed := true }
def WheelPlaysUptoSaid : Prop := wheelPlaysUptoRow.holds Try.pinned (OpenSpec.upto wheelPlaysSpec)

end Rows
end Go.Proofs.Ytphaicaobepimaa
