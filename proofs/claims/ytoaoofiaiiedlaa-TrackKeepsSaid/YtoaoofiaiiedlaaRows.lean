/-
  No cell of these rows narrows 'for every input' (looked for: loops, veiled, ifaces, maps, wideKeys, modest, calm, conditions, laid).
  DERIVED. THE GIVEN ROWS OF THIS SEAT. 12 by the template 'for every input the law returns true; each argument reads behind the call as it read before'; 0 by the template 'total and deterministic' (their statements: YtoaoofiaiiedlaaTotals.lean).
  GIVEN WITH THE SEED: the statements are not yours to turn. If you find one false, say at which input.
  Laid BY PROGRAM, IN A SANDBOX (cutbox-rows.mjs): the forced cells as the released guide's own fill.sh prints them over the translation 71bc60306245a0f4… (all of the seat's roots in one cut). By AI agents, Wed Nov 11 2026. No macro, syntax, notation, axiom, sorry.
-/
import Derived.Test.YtoaoofiaiiedlaaChecked
import GoSem.Claim
import GoSem.ClaimJoined
import GoSem.ClaimMapViews
import Derived.JoinedTies
import Derived.KernelRfl
namespace Go.Proofs.Ytoaoofiaiiedlaa
/- THE CELL 'sum', in the pinned program and in every row, IS THE sha256 OF THE DUMP (.gsa) THAT YtoaoofiaiiedlaaProg.lean LOADS. Nothing in Lean hashes anything: it is a label: what it is worth is what the hold of that sum in a sandbox is worth. -/
noncomputable def Try.pinned : Pinned := { name := "ytoaoofiaiiedlaa", sum := "71bc60306245a0f4280714f5b2e829185d69efb9898c1f2e838abc0bc839e290", checked := Try.checked }
namespace Rows
def none {H : Type} : Left H := { results := [], args := [] }

/-- 'rentrolllaw.Names': WHATEVER THE INPUT: true; the input reads as it did. -/
def namesSpec : ChangeSpec := { name := "names", fn := fun _ => fun
  | [] => { results := [.lit (.bool true)], args := [] }
  | _ => none }
def namesRow : OpenClaim := { program := "ytoaoofiaiiedlaa", sum := "71bc60306245a0f4280714f5b2e829185d69efb9898c1f2e838abc0bc839e290", func := "rentroll/rentrolllaw.Names", spec := "names", apart := false }
def NamesSaid : Prop := namesRow.holds Try.pinned (OpenSpec.ofChange namesSpec)

/-- ITS FALSE NEIGHBOUR: 'it returns false'. Refute it at one input. -/
def namesWrong : ChangeSpec := { name := "names", fn := fun _ => fun
  | [] => { results := [.lit (.bool false)], args := [] }
  | _ => none }
def NamesWrongFalsely : Prop := namesRow.holds Try.pinned (OpenSpec.ofChange namesWrong)

/-- 'rentrollkeep.SumsSwap': WHATEVER THE INPUT: true; the input reads as it did. -/
def sumsSwapSpec : ChangeSpec := { name := "sumsSwap", fn := fun _ => fun
  | [d1, d2, d3] => { results := [.lit (.bool true)], args := [d1, d2, d3] }
  | _ => none }
def sumsSwapRow : OpenClaim := { program := "ytoaoofiaiiedlaa", sum := "71bc60306245a0f4280714f5b2e829185d69efb9898c1f2e838abc0bc839e290", func := "rentroll/rentrollkeep.SumsSwap", spec := "sumsSwap", apart := false }
def SumsSwapSaid : Prop := sumsSwapRow.holds Try.pinned (OpenSpec.ofChange sumsSwapSpec)

/-- ITS FALSE NEIGHBOUR: 'it returns false'. Refute it at one input. -/
def sumsSwapWrong : ChangeSpec := { name := "sumsSwap", fn := fun _ => fun
  | [d1, d2, d3] => { results := [.lit (.bool false)], args := [d1, d2, d3] }
  | _ => none }
def SumsSwapWrongFalsely : Prop := sumsSwapRow.holds Try.pinned (OpenSpec.ofChange sumsSwapWrong)

/-- 'rentrolllaw.SumsOf': WHATEVER THE INPUT: true; the input reads as it did. -/
def sumsOfSpec : ChangeSpec := { name := "sumsOf", fn := fun _ => fun
  | [d] => { results := [.lit (.bool true)], args := [d] }
  | _ => none }
def sumsOfRow : OpenClaim := { program := "ytoaoofiaiiedlaa", sum := "71bc60306245a0f4280714f5b2e829185d69efb9898c1f2e838abc0bc839e290", func := "rentroll/rentrolllaw.SumsOf", spec := "sumsOf", apart := false }
def SumsOfSaid : Prop := sumsOfRow.holds Try.pinned (OpenSpec.ofChange sumsOfSpec)

/-- ITS FALSE NEIGHBOUR: 'it returns false'. Refute it at one input. -/
def sumsOfWrong : ChangeSpec := { name := "sumsOf", fn := fun _ => fun
  | [d] => { results := [.lit (.bool false)], args := [d] }
  | _ => none }
def SumsOfWrongFalsely : Prop := sumsOfRow.holds Try.pinned (OpenSpec.ofChange sumsOfWrong)

/-- 'rentrollkeep.SumsWhole': WHATEVER THE INPUT: true; the input reads as it did. -/
def sumsWholeSpec : ChangeSpec := { name := "sumsWhole", fn := fun _ => fun
  | [d1, d2] => { results := [.lit (.bool true)], args := [d1, d2] }
  | _ => none }
def sumsWholeRow : OpenClaim := { program := "ytoaoofiaiiedlaa", sum := "71bc60306245a0f4280714f5b2e829185d69efb9898c1f2e838abc0bc839e290", func := "rentroll/rentrollkeep.SumsWhole", spec := "sumsWhole", apart := false }
def SumsWholeSaid : Prop := sumsWholeRow.holds Try.pinned (OpenSpec.ofChange sumsWholeSpec)

/-- ITS FALSE NEIGHBOUR: 'it returns false'. Refute it at one input. -/
def sumsWholeWrong : ChangeSpec := { name := "sumsWhole", fn := fun _ => fun
  | [d1, d2] => { results := [.lit (.bool false)], args := [d1, d2] }
  | _ => none }
def SumsWholeWrongFalsely : Prop := sumsWholeRow.holds Try.pinned (OpenSpec.ofChange sumsWholeWrong)

/-- 'rentrolllaw.SumsUpdate': WHATEVER THE INPUT: true; the input reads as it did. -/
def sumsUpdateSpec : ChangeSpec := { name := "sumsUpdate", fn := fun _ => fun
  | [d1, d2, d3] => { results := [.lit (.bool true)], args := [d1, d2, d3] }
  | _ => none }
def sumsUpdateRow : OpenClaim := { program := "ytoaoofiaiiedlaa", sum := "71bc60306245a0f4280714f5b2e829185d69efb9898c1f2e838abc0bc839e290", func := "rentroll/rentrolllaw.SumsUpdate", spec := "sumsUpdate", apart := false }
def SumsUpdateSaid : Prop := sumsUpdateRow.holds Try.pinned (OpenSpec.ofChange sumsUpdateSpec)

/-- ITS FALSE NEIGHBOUR: 'it returns false'. Refute it at one input. -/
def sumsUpdateWrong : ChangeSpec := { name := "sumsUpdate", fn := fun _ => fun
  | [d1, d2, d3] => { results := [.lit (.bool false)], args := [d1, d2, d3] }
  | _ => none }
def SumsUpdateWrongFalsely : Prop := sumsUpdateRow.holds Try.pinned (OpenSpec.ofChange sumsUpdateWrong)

/-- 'rentrollkeep.SumsChange': WHATEVER THE INPUT: true; the input reads as it did. -/
def sumsChangeSpec : ChangeSpec := { name := "sumsChange", fn := fun _ => fun
  | [d1, d2, d3, d4] => { results := [.lit (.bool true)], args := [d1, d2, d3, d4] }
  | _ => none }
def sumsChangeRow : OpenClaim := { program := "ytoaoofiaiiedlaa", sum := "71bc60306245a0f4280714f5b2e829185d69efb9898c1f2e838abc0bc839e290", func := "rentroll/rentrollkeep.SumsChange", spec := "sumsChange", apart := false }
def SumsChangeSaid : Prop := sumsChangeRow.holds Try.pinned (OpenSpec.ofChange sumsChangeSpec)

/-- ITS FALSE NEIGHBOUR: 'it returns false'. Refute it at one input. -/
def sumsChangeWrong : ChangeSpec := { name := "sumsChange", fn := fun _ => fun
  | [d1, d2, d3, d4] => { results := [.lit (.bool false)], args := [d1, d2, d3, d4] }
  | _ => none }
def SumsChangeWrongFalsely : Prop := sumsChangeRow.holds Try.pinned (OpenSpec.ofChange sumsChangeWrong)

/-- 'rentrolllaw.TrackBegins': WHATEVER THE INPUT: true; the input reads as it did. -/
def trackBeginsSpec : ChangeSpec := { name := "trackBegins", fn := fun _ => fun
  | [d] => { results := [.lit (.bool true)], args := [d] }
  | _ => none }
def trackBeginsRow : OpenClaim := { program := "ytoaoofiaiiedlaa", sum := "71bc60306245a0f4280714f5b2e829185d69efb9898c1f2e838abc0bc839e290", func := "rentroll/rentrolllaw.TrackBegins", spec := "trackBegins", unfollowed := true, recurses := true, apart := false }
def TrackBeginsSaid : Prop := trackBeginsRow.holds Try.pinned (OpenSpec.ofChange trackBeginsSpec)

/-- ITS FALSE NEIGHBOUR: 'it returns false'. Refute it at one input. -/
def trackBeginsWrong : ChangeSpec := { name := "trackBegins", fn := fun _ => fun
  | [d] => { results := [.lit (.bool false)], args := [d] }
  | _ => none }
def TrackBeginsWrongFalsely : Prop := trackBeginsRow.holds Try.pinned (OpenSpec.ofChange trackBeginsWrong)

/-- 'rentrolllaw.TrackNexts': WHATEVER THE INPUT: true; the input reads as it did. -/
def trackNextsSpec : ChangeSpec := { name := "trackNexts", fn := fun _ => fun
  | [d1, d2, d3, d4] => { results := [.lit (.bool true)], args := [d1, d2, d3, d4] }
  | _ => none }
def trackNextsRow : OpenClaim := { program := "ytoaoofiaiiedlaa", sum := "71bc60306245a0f4280714f5b2e829185d69efb9898c1f2e838abc0bc839e290", func := "rentroll/rentrolllaw.TrackNexts", spec := "trackNexts", unfollowed := true, recurses := true, apart := false }
def TrackNextsSaid : Prop := trackNextsRow.holds Try.pinned (OpenSpec.ofChange trackNextsSpec)

/-- ITS FALSE NEIGHBOUR: 'it returns false'. Refute it at one input. -/
def trackNextsWrong : ChangeSpec := { name := "trackNexts", fn := fun _ => fun
  | [d1, d2, d3, d4] => { results := [.lit (.bool false)], args := [d1, d2, d3, d4] }
  | _ => none }
def TrackNextsWrongFalsely : Prop := trackNextsRow.holds Try.pinned (OpenSpec.ofChange trackNextsWrong)

/-- 'rentrollkeep.TrackKeeps': WHATEVER THE INPUT: true; the input reads as it did. -/
def trackKeepsSpec : ChangeSpec := { name := "trackKeeps", fn := fun _ => fun
  | [d1, d2, d3] => { results := [.lit (.bool true)], args := [d1, d2, d3] }
  | _ => none }
def trackKeepsRow : OpenClaim := { program := "ytoaoofiaiiedlaa", sum := "71bc60306245a0f4280714f5b2e829185d69efb9898c1f2e838abc0bc839e290", func := "rentroll/rentrollkeep.TrackKeeps", spec := "trackKeeps", apart := false }
def TrackKeepsSaid : Prop := trackKeepsRow.holds Try.pinned (OpenSpec.ofChange trackKeepsSpec)

/-- ITS FALSE NEIGHBOUR: 'it returns false'. Refute it at one input. -/
def trackKeepsWrong : ChangeSpec := { name := "trackKeeps", fn := fun _ => fun
  | [d1, d2, d3] => { results := [.lit (.bool false)], args := [d1, d2, d3] }
  | _ => none }
def TrackKeepsWrongFalsely : Prop := trackKeepsRow.holds Try.pinned (OpenSpec.ofChange trackKeepsWrong)

/-- 'rentrollkeep.TrackRuns': WHATEVER THE INPUT: true; the input reads as it did. -/
def trackRunsSpec : ChangeSpec := { name := "trackRuns", fn := fun _ => fun
  | [d] => { results := [.lit (.bool true)], args := [d] }
  | _ => none }
def trackRunsRow : OpenClaim := { program := "ytoaoofiaiiedlaa", sum := "71bc60306245a0f4280714f5b2e829185d69efb9898c1f2e838abc0bc839e290", func := "rentroll/rentrollkeep.TrackRuns", spec := "trackRuns", apart := false }
def TrackRunsSaid : Prop := trackRunsRow.holds Try.pinned (OpenSpec.ofChange trackRunsSpec)

/-- ITS FALSE NEIGHBOUR: 'it returns false'. Refute it at one input. -/
def trackRunsWrong : ChangeSpec := { name := "trackRuns", fn := fun _ => fun
  | [d] => { results := [.lit (.bool false)], args := [d] }
  | _ => none }
def TrackRunsWrongFalsely : Prop := trackRunsRow.holds Try.pinned (OpenSpec.ofChange trackRunsWrong)

/-- 'rentrollkeep.PoolRound': WHATEVER THE INPUT: true; the input reads as it did. -/
def poolRoundSpec : ChangeSpec := { name := "poolRound", fn := fun _ => fun
  | [d1, d2, d3, d4] => { results := [.lit (.bool true)], args := [d1, d2, d3, d4] }
  | _ => none }
def poolRoundRow : OpenClaim := { program := "ytoaoofiaiiedlaa", sum := "71bc60306245a0f4280714f5b2e829185d69efb9898c1f2e838abc0bc839e290", func := "rentroll/rentrollkeep.PoolRound", spec := "poolRound", apart := false }
def PoolRoundSaid : Prop := poolRoundRow.holds Try.pinned (OpenSpec.ofChange poolRoundSpec)

/-- ITS FALSE NEIGHBOUR: 'it returns false'. Refute it at one input. -/
def poolRoundWrong : ChangeSpec := { name := "poolRound", fn := fun _ => fun
  | [d1, d2, d3, d4] => { results := [.lit (.bool false)], args := [d1, d2, d3, d4] }
  | _ => none }
def PoolRoundWrongFalsely : Prop := poolRoundRow.holds Try.pinned (OpenSpec.ofChange poolRoundWrong)

/-- 'rentrolllaw.PoolTakes': WHATEVER THE INPUT: true; the input reads as it did. -/
def poolTakesSpec : ChangeSpec := { name := "poolTakes", fn := fun _ => fun
  | [d1, d2, d3, d4] => { results := [.lit (.bool true)], args := [d1, d2, d3, d4] }
  | _ => none }
def poolTakesRow : OpenClaim := { program := "ytoaoofiaiiedlaa", sum := "71bc60306245a0f4280714f5b2e829185d69efb9898c1f2e838abc0bc839e290", func := "rentroll/rentrolllaw.PoolTakes", spec := "poolTakes", apart := false }
def PoolTakesSaid : Prop := poolTakesRow.holds Try.pinned (OpenSpec.ofChange poolTakesSpec)

/-- ITS FALSE NEIGHBOUR: 'it returns false'. Refute it at one input. -/
def poolTakesWrong : ChangeSpec := { name := "poolTakes", fn := fun _ => fun
  | [d1, d2, d3, d4] => { results := [.lit (.bool false)], args := [d1, d2, d3, d4] }
  | _ => none }
def PoolTakesWrongFalsely : Prop := poolTakesRow.holds Try.pinned (OpenSpec.ofChange poolTakesWrong)

/- THE SECOND FORM. 'bulk': how many values and letters a reading holds, each counted each time it is reached (what is shared counts as often as it is met; a slice's spare places count too). A statement '..UptoSaid' is the law's where the arguments, and the package variables that the reading takes, are together of bulk at most 1048576: NARROWER than '..Said'. Prove '..Said' where nothing that the law and all that it calls make is longer than what came in: it says more and counts as full. Else prove '..UptoSaid'. A law counts once. -/
mutual
def uptoBulk {H : Type} : DataW H → Nat
  | .lit (.string bytes) => bytes.length + 1
  | .lit _ => 1
  | .nil => 1
  | .ptr d => uptoBulk d + 1
  | .slice elems spare => uptoBulkAll elems + uptoBulkAll spare + 1
  | .agg parts => uptoBulkAll parts + 1
  | .iface _ d => uptoBulk d + 1
  | .map entries => uptoBulkEntries entries + 1
  | .held _ => 1
def uptoBulkAll {H : Type} : List (DataW H) → Nat
  | [] => 0
  | d :: r => uptoBulk d + uptoBulkAll r
def uptoBulkEntries {H : Type} : List (Lit × DataW H) → Nat
  | [] => 0
  | x :: r => uptoBulkEntry x + uptoBulkEntries r
def uptoBulkEntry {H : Type} : Lit × DataW H → Nat
  | (.string bytes, d) => bytes.length + uptoBulk d + 1
  | (_, d) => uptoBulk d + 1
 end
def uptoSmall : (H : Type) → List (DataW H) → Bool := fun _ ds => decide (uptoBulkAll ds ≤ 1048576)
def OpenSpec.upto (s : _root_.Go.ChangeSpec) : _root_.Go.OpenSpec := { _root_.Go.OpenSpec.ofChange s with cond := some uptoSmall }

/-- 'rentrolllaw.Names', WHERE WHAT IT READS IS OF BULK AT MOST 1048576: true; the input reads as it did. -/
def namesUptoRow : OpenClaim := { program := "ytoaoofiaiiedlaa", sum := "71bc60306245a0f4280714f5b2e829185d69efb9898c1f2e838abc0bc839e290", func := "rentroll/rentrolllaw.Names", spec := "names", apart := false, narrowed := true }
def NamesUptoSaid : Prop := namesUptoRow.holds Try.pinned (OpenSpec.upto namesSpec)

/-- 'rentrollkeep.SumsSwap', WHERE WHAT IT READS IS OF BULK AT MOST 1048576: true; the input reads as it did. -/
def sumsSwapUptoRow : OpenClaim := { program := "ytoaoofiaiiedlaa", sum := "71bc60306245a0f4280714f5b2e829185d69efb9898c1f2e838abc0bc839e290", func := "rentroll/rentrollkeep.SumsSwap", spec := "sumsSwap", apart := false, narrowed := true }
def SumsSwapUptoSaid : Prop := sumsSwapUptoRow.holds Try.pinned (OpenSpec.upto sumsSwapSpec)

/-- 'rentrolllaw.SumsOf', WHERE WHAT IT READS IS OF BULK AT MOST 1048576: true; the input reads as it did. -/
def sumsOfUptoRow : OpenClaim := { program := "ytoaoofiaiiedlaa", sum := "71bc60306245a0f4280714f5b2e829185d69efb9898c1f2e838abc0bc839e290", func := "rentroll/rentrolllaw.SumsOf", spec := "sumsOf", apart := false, narrowed := true }
def SumsOfUptoSaid : Prop := sumsOfUptoRow.holds Try.pinned (OpenSpec.upto sumsOfSpec)

/-- 'rentrollkeep.SumsWhole', WHERE WHAT IT READS IS OF BULK AT MOST 1048576: true; the input reads as it did. -/
def sumsWholeUptoRow : OpenClaim := { program := "ytoaoofiaiiedlaa", sum := "71bc60306245a0f4280714f5b2e829185d69efb9898c1f2e838abc0bc839e290", func := "rentroll/rentrollkeep.SumsWhole", spec := "sumsWhole", apart := false, narrowed := true }
def SumsWholeUptoSaid : Prop := sumsWholeUptoRow.holds Try.pinned (OpenSpec.upto sumsWholeSpec)

/-- 'rentrolllaw.SumsUpdate', WHERE WHAT IT READS IS OF BULK AT MOST 1048576: true; the input reads as it did. -/
def sumsUpdateUptoRow : OpenClaim := { program := "ytoaoofiaiiedlaa", sum := "71bc60306245a0f4280714f5b2e829185d69efb9898c1f2e838abc0bc839e290", func := "rentroll/rentrolllaw.SumsUpdate", spec := "sumsUpdate", apart := false, narrowed := true }
def SumsUpdateUptoSaid : Prop := sumsUpdateUptoRow.holds Try.pinned (OpenSpec.upto sumsUpdateSpec)

/-- 'rentrollkeep.SumsChange', WHERE WHAT IT READS IS OF BULK AT MOST 1048576: true; the input reads as it did. -/
def sumsChangeUptoRow : OpenClaim := { program := "ytoaoofiaiiedlaa", sum := "71bc60306245a0f4280714f5b2e829185d69efb9898c1f2e838abc0bc839e290", func := "rentroll/rentrollkeep.SumsChange", spec := "sumsChange", apart := false, narrowed := true }
def SumsChangeUptoSaid : Prop := sumsChangeUptoRow.holds Try.pinned (OpenSpec.upto sumsChangeSpec)

/-- 'rentrolllaw.TrackBegins', WHERE WHAT IT READS IS OF BULK AT MOST 1048576: true; the input reads as it did. -/
def trackBeginsUptoRow : OpenClaim := { program := "ytoaoofiaiiedlaa", sum := "71bc60306245a0f4280714f5b2e829185d69efb9898c1f2e838abc0bc839e290", func := "rentroll/rentrolllaw.TrackBegins", spec := "trackBegins", unfollowed := true, recurses := true, apart := false, narrowed := true }
def TrackBeginsUptoSaid : Prop := trackBeginsUptoRow.holds Try.pinned (OpenSpec.upto trackBeginsSpec)

/-- 'rentrolllaw.TrackNexts', WHERE WHAT IT READS IS OF BULK AT MOST 1048576: true; the input reads as it did. -/
def trackNextsUptoRow : OpenClaim := { program := "ytoaoofiaiiedlaa", sum := "71bc60306245a0f4280714f5b2e829185d69efb9898c1f2e838abc0bc839e290", func := "rentroll/rentrolllaw.TrackNexts", spec := "trackNexts", unfollowed := true, recurses := true, apart := false, narrowed := true }
def TrackNextsUptoSaid : Prop := trackNextsUptoRow.holds Try.pinned (OpenSpec.upto trackNextsSpec)

/-- 'rentrollkeep.TrackKeeps', WHERE WHAT IT READS IS OF BULK AT MOST 1048576: true; the input reads as it did. -/
def trackKeepsUptoRow : OpenClaim := { program := "ytoaoofiaiiedlaa", sum := "71bc60306245a0f4280714f5b2e829185d69efb9898c1f2e838abc0bc839e290", func := "rentroll/rentrollkeep.TrackKeeps", spec := "trackKeeps", apart := false, narrowed := true }
def TrackKeepsUptoSaid : Prop := trackKeepsUptoRow.holds Try.pinned (OpenSpec.upto trackKeepsSpec)

/-- 'rentrollkeep.TrackRuns', WHERE WHAT IT READS IS OF BULK AT MOST 1048576: true; the input reads as it did. -/
def trackRunsUptoRow : OpenClaim := { program := "ytoaoofiaiiedlaa", sum := "71bc60306245a0f4280714f5b2e829185d69efb9898c1f2e838abc0bc839e290", func := "rentroll/rentrollkeep.TrackRuns", spec := "trackRuns", apart := false, narrowed := true }
def TrackRunsUptoSaid : Prop := trackRunsUptoRow.holds Try.pinned (OpenSpec.upto trackRunsSpec)

/-- 'rentrollkeep.PoolRound', WHERE WHAT IT READS IS OF BULK AT MOST 1048576: true; the input reads as it did. -/
def poolRoundUptoRow : OpenClaim := { program := "ytoaoofiaiiedlaa", sum := "71bc60306245a0f4280714f5b2e829185d69efb9898c1f2e838abc0bc839e290", func := "rentroll/rentrollkeep.PoolRound", spec := "poolRound", apart := false, narrowed := true }
def PoolRoundUptoSaid : Prop := poolRoundUptoRow.holds Try.pinned (OpenSpec.upto poolRoundSpec)

/-- 'rentrolllaw.PoolTakes', WHERE WHAT IT READS IS OF BULK AT MOST 1048576: true; the input reads as it did. -/
def poolTakesUptoRow : OpenClaim := { program := "ytoaoofiaiiedlaa", sum := "71bc60306245a0f4280714f5b2e829185d69efb9898c1f2e838abc0bc839e290", func := "rentroll/rentrolllaw.PoolTakes", spec := "poolTakes", apart := false, narrowed := true }
def PoolTakesUptoSaid : Prop := poolTakesUptoRow.holds Try.pinned (OpenSpec.upto poolTakesSpec)

end Rows
end Go.Proofs.Ytoaoofiaiiedlaa
