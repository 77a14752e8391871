/-
  NARROWER THAN 'FOR EVERY INPUT', by the rows' own cells (each row's printed sentence says how): NatNil: laid · NatRuns: laid · NatPlays: laid · TopBack: laid · TopRate: laid · TopSums: laid · TopOut: laid · TopIn: laid · TopStrangers: laid · TopMemory: laid · TopEnds: laid · TopDrained: laid · TopRuns: laid · TopGood: laid · TopRefused: laid · TopTraced: laid · TopQuiet: laid.
  DERIVED. THE GIVEN ROWS OF THIS SEAT. 17 by the template 'for every input the law returns true; each argument reads behind the call as it read before'; 0 by the template 'total and deterministic' (their statements: YtogckmommodmhaaGreatDoorTotals.lean).
  GIVEN WITH THE SEED: the statements are not yours to turn. If you find one false, say at which input.
  Laid BY PROGRAM, IN A SANDBOX (cutbox-rows.mjs): the forced cells as the released guide's own fill.sh prints them over the translation 26922efdefc7556d… (all of the seat's roots in one cut). By AI agents, Wed Nov 11 2026. No macro, syntax, notation, axiom, sorry.
-/
import Derived.Test.YtogckmommodmhaaGreatDoorChecked
import GoSem.Claim
import GoSem.ClaimJoined
import GoSem.ClaimMapViews
import Derived.JoinedTies
import Derived.KernelRfl
namespace Go.Proofs.YtogckmommodmhaaGreatDoor
/- THE CELL 'sum', in the pinned program and in every row, IS THE sha256 OF THE DUMP (.gsa) THAT YtogckmommodmhaaGreatDoorProg.lean LOADS. Nothing in Lean hashes anything: it is a label: what it is worth is what the hold of that sum in a sandbox is worth. -/
noncomputable def Tryz.pinned : Pinned := { name := "ytogckmommodmhaagreatdoor", sum := "26922efdefc7556d4daef4d2c41670ba6c0723653811bfaeff279dce3e11d5fa", checked := Tryz.checked }
namespace Rows
def none {H : Type} : Left H := { results := [], args := [] }

/- WHAT THE LISTED PACKAGE-LEVEL VARIABLES READ AS WHEN THE CALL BEGINS. Each datum BY PROGRAM (the guide's laid-datum.mjs) off the statement by which the dump's own 'gosem.cut.vars' lays the variable. In a bare row this is a premise. The card (YtogckmommodmhaaGreatDoorCards.lean) ties it to the program's text. -/
def laid_rentroll_record_fields {H : Type} : DataW H := .agg [.agg [.lit (.int .i64 323), .lit (.int .i64 8)], .agg [.lit (.int .i64 8), .lit (.int .i64 4)], .agg [.lit (.int .i64 225), .lit (.int .i64 4)], .agg [.lit (.int .i64 361), .lit (.int .i64 2)], .agg [.lit (.int .i64 362), .lit (.int .i64 2)], .agg [.lit (.int .i64 230), .lit (.int .i64 1)]]

/-- 'rentrolllaw.NatNil': WHATEVER THE INPUT: true; the input reads as it did. -/
def natNilSpec : ChangeSpec := { name := "natNil", fn := fun _ => fun
  | [d] => { results := [.lit (.bool true)], args := [d] }
  | _ => none }
def natNilRow : OpenClaim := { program := "ytogckmommodmhaagreatdoor", sum := "26922efdefc7556d4daef4d2c41670ba6c0723653811bfaeff279dce3e11d5fa", func := "rentroll/rentrolllaw.NatNil", spec := "natNil", unfollowed := true, recurses := true, named := ["rentroll/record.fields"], plainKeys := false, apart := false, laid := [("rentroll/record.fields", laid_rentroll_record_fields)] }
def NatNilSaid : Prop := natNilRow.holds Tryz.pinned (OpenSpec.ofChange natNilSpec)

/-- ITS FALSE NEIGHBOUR: 'it returns false'. Refute it at one input. -/
def natNilWrong : ChangeSpec := { name := "natNil", fn := fun _ => fun
  | [d] => { results := [.lit (.bool false)], args := [d] }
  | _ => none }
def NatNilWrongFalsely : Prop := natNilRow.holds Tryz.pinned (OpenSpec.ofChange natNilWrong)

/-- 'rentrolllaw.NatRuns': WHATEVER THE INPUT: true; the input reads as it did. -/
def natRunsSpec : ChangeSpec := { name := "natRuns", fn := fun _ => fun
  | [d1, d2] => { results := [.lit (.bool true)], args := [d1, d2] }
  | _ => none }
def natRunsRow : OpenClaim := { program := "ytogckmommodmhaagreatdoor", sum := "26922efdefc7556d4daef4d2c41670ba6c0723653811bfaeff279dce3e11d5fa", func := "rentroll/rentrolllaw.NatRuns", spec := "natRuns", unfollowed := true, recurses := true, named := ["rentroll/record.fields"], plainKeys := false, apart := false, laid := [("rentroll/record.fields", laid_rentroll_record_fields)] }
def NatRunsSaid : Prop := natRunsRow.holds Tryz.pinned (OpenSpec.ofChange natRunsSpec)

/-- ITS FALSE NEIGHBOUR: 'it returns false'. Refute it at one input. -/
def natRunsWrong : ChangeSpec := { name := "natRuns", fn := fun _ => fun
  | [d1, d2] => { results := [.lit (.bool false)], args := [d1, d2] }
  | _ => none }
def NatRunsWrongFalsely : Prop := natRunsRow.holds Tryz.pinned (OpenSpec.ofChange natRunsWrong)

/-- 'rentrolllaw.NatPlays': WHATEVER THE INPUT: true; the input reads as it did. -/
def natPlaysSpec : ChangeSpec := { name := "natPlays", fn := fun _ => fun
  | [d1, d2] => { results := [.lit (.bool true)], args := [d1, d2] }
  | _ => none }
def natPlaysRow : OpenClaim := { program := "ytogckmommodmhaagreatdoor", sum := "26922efdefc7556d4daef4d2c41670ba6c0723653811bfaeff279dce3e11d5fa", func := "rentroll/rentrolllaw.NatPlays", spec := "natPlays", unfollowed := true, recurses := true, named := ["rentroll/record.fields"], plainKeys := false, apart := false, laid := [("rentroll/record.fields", laid_rentroll_record_fields)] }
def NatPlaysSaid : Prop := natPlaysRow.holds Tryz.pinned (OpenSpec.ofChange natPlaysSpec)

/-- ITS FALSE NEIGHBOUR: 'it returns false'. Refute it at one input. -/
def natPlaysWrong : ChangeSpec := { name := "natPlays", fn := fun _ => fun
  | [d1, d2] => { results := [.lit (.bool false)], args := [d1, d2] }
  | _ => none }
def NatPlaysWrongFalsely : Prop := natPlaysRow.holds Tryz.pinned (OpenSpec.ofChange natPlaysWrong)

/-- 'rentrolltop.TopBack': WHATEVER THE INPUT: true; the input reads as it did. -/
def topBackSpec : ChangeSpec := { name := "topBack", fn := fun _ => fun
  | [d1, d2, d3, d4, d5, d6, d7] => { results := [.lit (.bool true)], args := [d1, d2, d3, d4, d5, d6, d7] }
  | _ => none }
def topBackRow : OpenClaim := { program := "ytogckmommodmhaagreatdoor", sum := "26922efdefc7556d4daef4d2c41670ba6c0723653811bfaeff279dce3e11d5fa", func := "rentroll/rentrolltop.TopBack", spec := "topBack", unfollowed := true, recurses := true, named := ["rentroll/record.fields"], plainKeys := false, apart := false, laid := [("rentroll/record.fields", laid_rentroll_record_fields)] }
def TopBackSaid : Prop := topBackRow.holds Tryz.pinned (OpenSpec.ofChange topBackSpec)

/-- ITS FALSE NEIGHBOUR: 'it returns false'. Refute it at one input. -/
def topBackWrong : ChangeSpec := { name := "topBack", fn := fun _ => fun
  | [d1, d2, d3, d4, d5, d6, d7] => { results := [.lit (.bool false)], args := [d1, d2, d3, d4, d5, d6, d7] }
  | _ => none }
def TopBackWrongFalsely : Prop := topBackRow.holds Tryz.pinned (OpenSpec.ofChange topBackWrong)

/-- 'rentrolltop.TopRate': WHATEVER THE INPUT: true; the input reads as it did. -/
def topRateSpec : ChangeSpec := { name := "topRate", fn := fun _ => fun
  | [d1, d2] => { results := [.lit (.bool true)], args := [d1, d2] }
  | _ => none }
def topRateRow : OpenClaim := { program := "ytogckmommodmhaagreatdoor", sum := "26922efdefc7556d4daef4d2c41670ba6c0723653811bfaeff279dce3e11d5fa", func := "rentroll/rentrolltop.TopRate", spec := "topRate", unfollowed := true, recurses := true, named := ["rentroll/record.fields"], plainKeys := false, apart := false, laid := [("rentroll/record.fields", laid_rentroll_record_fields)] }
def TopRateSaid : Prop := topRateRow.holds Tryz.pinned (OpenSpec.ofChange topRateSpec)

/-- ITS FALSE NEIGHBOUR: 'it returns false'. Refute it at one input. -/
def topRateWrong : ChangeSpec := { name := "topRate", fn := fun _ => fun
  | [d1, d2] => { results := [.lit (.bool false)], args := [d1, d2] }
  | _ => none }
def TopRateWrongFalsely : Prop := topRateRow.holds Tryz.pinned (OpenSpec.ofChange topRateWrong)

/-- 'rentrolltop.TopSums': WHATEVER THE INPUT: true; the input reads as it did. -/
def topSumsSpec : ChangeSpec := { name := "topSums", fn := fun _ => fun
  | [d1, d2] => { results := [.lit (.bool true)], args := [d1, d2] }
  | _ => none }
def topSumsRow : OpenClaim := { program := "ytogckmommodmhaagreatdoor", sum := "26922efdefc7556d4daef4d2c41670ba6c0723653811bfaeff279dce3e11d5fa", func := "rentroll/rentrolltop.TopSums", spec := "topSums", unfollowed := true, recurses := true, named := ["rentroll/record.fields"], plainKeys := false, apart := false, laid := [("rentroll/record.fields", laid_rentroll_record_fields)] }
def TopSumsSaid : Prop := topSumsRow.holds Tryz.pinned (OpenSpec.ofChange topSumsSpec)

/-- ITS FALSE NEIGHBOUR: 'it returns false'. Refute it at one input. -/
def topSumsWrong : ChangeSpec := { name := "topSums", fn := fun _ => fun
  | [d1, d2] => { results := [.lit (.bool false)], args := [d1, d2] }
  | _ => none }
def TopSumsWrongFalsely : Prop := topSumsRow.holds Tryz.pinned (OpenSpec.ofChange topSumsWrong)

/-- 'rentrolltop.TopOut': WHATEVER THE INPUT: true; the input reads as it did. -/
def topOutSpec : ChangeSpec := { name := "topOut", fn := fun _ => fun
  | [d1, d2] => { results := [.lit (.bool true)], args := [d1, d2] }
  | _ => none }
def topOutRow : OpenClaim := { program := "ytogckmommodmhaagreatdoor", sum := "26922efdefc7556d4daef4d2c41670ba6c0723653811bfaeff279dce3e11d5fa", func := "rentroll/rentrolltop.TopOut", spec := "topOut", unfollowed := true, recurses := true, named := ["rentroll/record.fields"], plainKeys := false, apart := false, laid := [("rentroll/record.fields", laid_rentroll_record_fields)] }
def TopOutSaid : Prop := topOutRow.holds Tryz.pinned (OpenSpec.ofChange topOutSpec)

/-- ITS FALSE NEIGHBOUR: 'it returns false'. Refute it at one input. -/
def topOutWrong : ChangeSpec := { name := "topOut", fn := fun _ => fun
  | [d1, d2] => { results := [.lit (.bool false)], args := [d1, d2] }
  | _ => none }
def TopOutWrongFalsely : Prop := topOutRow.holds Tryz.pinned (OpenSpec.ofChange topOutWrong)

/-- 'rentrolltop.TopIn': WHATEVER THE INPUT: true; the input reads as it did. -/
def topInSpec : ChangeSpec := { name := "topIn", fn := fun _ => fun
  | [d1, d2] => { results := [.lit (.bool true)], args := [d1, d2] }
  | _ => none }
def topInRow : OpenClaim := { program := "ytogckmommodmhaagreatdoor", sum := "26922efdefc7556d4daef4d2c41670ba6c0723653811bfaeff279dce3e11d5fa", func := "rentroll/rentrolltop.TopIn", spec := "topIn", unfollowed := true, recurses := true, named := ["rentroll/record.fields"], plainKeys := false, apart := false, laid := [("rentroll/record.fields", laid_rentroll_record_fields)] }
def TopInSaid : Prop := topInRow.holds Tryz.pinned (OpenSpec.ofChange topInSpec)

/-- ITS FALSE NEIGHBOUR: 'it returns false'. Refute it at one input. -/
def topInWrong : ChangeSpec := { name := "topIn", fn := fun _ => fun
  | [d1, d2] => { results := [.lit (.bool false)], args := [d1, d2] }
  | _ => none }
def TopInWrongFalsely : Prop := topInRow.holds Tryz.pinned (OpenSpec.ofChange topInWrong)

/-- 'rentrolltop.TopStrangers': WHATEVER THE INPUT: true; the input reads as it did. -/
def topStrangersSpec : ChangeSpec := { name := "topStrangers", fn := fun _ => fun
  | [d1, d2, d3, d4, d5] => { results := [.lit (.bool true)], args := [d1, d2, d3, d4, d5] }
  | _ => none }
def topStrangersRow : OpenClaim := { program := "ytogckmommodmhaagreatdoor", sum := "26922efdefc7556d4daef4d2c41670ba6c0723653811bfaeff279dce3e11d5fa", func := "rentroll/rentrolltop.TopStrangers", spec := "topStrangers", unfollowed := true, recurses := true, named := ["rentroll/record.fields"], plainKeys := false, apart := false, laid := [("rentroll/record.fields", laid_rentroll_record_fields)] }
def TopStrangersSaid : Prop := topStrangersRow.holds Tryz.pinned (OpenSpec.ofChange topStrangersSpec)

/-- ITS FALSE NEIGHBOUR: 'it returns false'. Refute it at one input. -/
def topStrangersWrong : ChangeSpec := { name := "topStrangers", fn := fun _ => fun
  | [d1, d2, d3, d4, d5] => { results := [.lit (.bool false)], args := [d1, d2, d3, d4, d5] }
  | _ => none }
def TopStrangersWrongFalsely : Prop := topStrangersRow.holds Tryz.pinned (OpenSpec.ofChange topStrangersWrong)

/-- 'rentrolltop.TopMemory': WHATEVER THE INPUT: true; the input reads as it did. -/
def topMemorySpec : ChangeSpec := { name := "topMemory", fn := fun _ => fun
  | [d1, d2] => { results := [.lit (.bool true)], args := [d1, d2] }
  | _ => none }
def topMemoryRow : OpenClaim := { program := "ytogckmommodmhaagreatdoor", sum := "26922efdefc7556d4daef4d2c41670ba6c0723653811bfaeff279dce3e11d5fa", func := "rentroll/rentrolltop.TopMemory", spec := "topMemory", unfollowed := true, recurses := true, named := ["rentroll/record.fields"], plainKeys := false, apart := false, laid := [("rentroll/record.fields", laid_rentroll_record_fields)] }
def TopMemorySaid : Prop := topMemoryRow.holds Tryz.pinned (OpenSpec.ofChange topMemorySpec)

/-- ITS FALSE NEIGHBOUR: 'it returns false'. Refute it at one input. -/
def topMemoryWrong : ChangeSpec := { name := "topMemory", fn := fun _ => fun
  | [d1, d2] => { results := [.lit (.bool false)], args := [d1, d2] }
  | _ => none }
def TopMemoryWrongFalsely : Prop := topMemoryRow.holds Tryz.pinned (OpenSpec.ofChange topMemoryWrong)

/-- 'rentrolltop.TopEnds': WHATEVER THE INPUT: true; the input reads as it did. -/
def topEndsSpec : ChangeSpec := { name := "topEnds", fn := fun _ => fun
  | [d1, d2, d3] => { results := [.lit (.bool true)], args := [d1, d2, d3] }
  | _ => none }
def topEndsRow : OpenClaim := { program := "ytogckmommodmhaagreatdoor", sum := "26922efdefc7556d4daef4d2c41670ba6c0723653811bfaeff279dce3e11d5fa", func := "rentroll/rentrolltop.TopEnds", spec := "topEnds", unfollowed := true, recurses := true, named := ["rentroll/record.fields"], plainKeys := false, apart := false, laid := [("rentroll/record.fields", laid_rentroll_record_fields)] }
def TopEndsSaid : Prop := topEndsRow.holds Tryz.pinned (OpenSpec.ofChange topEndsSpec)

/-- ITS FALSE NEIGHBOUR: 'it returns false'. Refute it at one input. -/
def topEndsWrong : ChangeSpec := { name := "topEnds", fn := fun _ => fun
  | [d1, d2, d3] => { results := [.lit (.bool false)], args := [d1, d2, d3] }
  | _ => none }
def TopEndsWrongFalsely : Prop := topEndsRow.holds Tryz.pinned (OpenSpec.ofChange topEndsWrong)

/-- 'rentrolltop.TopDrained': WHATEVER THE INPUT: true; the input reads as it did. -/
def topDrainedSpec : ChangeSpec := { name := "topDrained", fn := fun _ => fun
  | [d1, d2] => { results := [.lit (.bool true)], args := [d1, d2] }
  | _ => none }
def topDrainedRow : OpenClaim := { program := "ytogckmommodmhaagreatdoor", sum := "26922efdefc7556d4daef4d2c41670ba6c0723653811bfaeff279dce3e11d5fa", func := "rentroll/rentrolltop.TopDrained", spec := "topDrained", unfollowed := true, recurses := true, named := ["rentroll/record.fields"], plainKeys := false, apart := false, laid := [("rentroll/record.fields", laid_rentroll_record_fields)] }
def TopDrainedSaid : Prop := topDrainedRow.holds Tryz.pinned (OpenSpec.ofChange topDrainedSpec)

/-- ITS FALSE NEIGHBOUR: 'it returns false'. Refute it at one input. -/
def topDrainedWrong : ChangeSpec := { name := "topDrained", fn := fun _ => fun
  | [d1, d2] => { results := [.lit (.bool false)], args := [d1, d2] }
  | _ => none }
def TopDrainedWrongFalsely : Prop := topDrainedRow.holds Tryz.pinned (OpenSpec.ofChange topDrainedWrong)

/-- 'rentrolltop.TopRuns': WHATEVER THE INPUT: true; the input reads as it did. -/
def topRunsSpec : ChangeSpec := { name := "topRuns", fn := fun _ => fun
  | [d1, d2, d3] => { results := [.lit (.bool true)], args := [d1, d2, d3] }
  | _ => none }
def topRunsRow : OpenClaim := { program := "ytogckmommodmhaagreatdoor", sum := "26922efdefc7556d4daef4d2c41670ba6c0723653811bfaeff279dce3e11d5fa", func := "rentroll/rentrolltop.TopRuns", spec := "topRuns", unfollowed := true, recurses := true, named := ["rentroll/record.fields"], plainKeys := false, apart := false, laid := [("rentroll/record.fields", laid_rentroll_record_fields)] }
def TopRunsSaid : Prop := topRunsRow.holds Tryz.pinned (OpenSpec.ofChange topRunsSpec)

/-- ITS FALSE NEIGHBOUR: 'it returns false'. Refute it at one input. -/
def topRunsWrong : ChangeSpec := { name := "topRuns", fn := fun _ => fun
  | [d1, d2, d3] => { results := [.lit (.bool false)], args := [d1, d2, d3] }
  | _ => none }
def TopRunsWrongFalsely : Prop := topRunsRow.holds Tryz.pinned (OpenSpec.ofChange topRunsWrong)

/-- 'rentrolltop.TopGood': WHATEVER THE INPUT: true; the input reads as it did. -/
def topGoodSpec : ChangeSpec := { name := "topGood", fn := fun _ => fun
  | [d1, d2] => { results := [.lit (.bool true)], args := [d1, d2] }
  | _ => none }
def topGoodRow : OpenClaim := { program := "ytogckmommodmhaagreatdoor", sum := "26922efdefc7556d4daef4d2c41670ba6c0723653811bfaeff279dce3e11d5fa", func := "rentroll/rentrolltop.TopGood", spec := "topGood", unfollowed := true, recurses := true, named := ["rentroll/record.fields"], plainKeys := false, apart := false, laid := [("rentroll/record.fields", laid_rentroll_record_fields)] }
def TopGoodSaid : Prop := topGoodRow.holds Tryz.pinned (OpenSpec.ofChange topGoodSpec)

/-- ITS FALSE NEIGHBOUR: 'it returns false'. Refute it at one input. -/
def topGoodWrong : ChangeSpec := { name := "topGood", fn := fun _ => fun
  | [d1, d2] => { results := [.lit (.bool false)], args := [d1, d2] }
  | _ => none }
def TopGoodWrongFalsely : Prop := topGoodRow.holds Tryz.pinned (OpenSpec.ofChange topGoodWrong)

/-- 'rentrolltop.TopRefused': WHATEVER THE INPUT: true; the input reads as it did. -/
def topRefusedSpec : ChangeSpec := { name := "topRefused", fn := fun _ => fun
  | [d1, d2, d3] => { results := [.lit (.bool true)], args := [d1, d2, d3] }
  | _ => none }
def topRefusedRow : OpenClaim := { program := "ytogckmommodmhaagreatdoor", sum := "26922efdefc7556d4daef4d2c41670ba6c0723653811bfaeff279dce3e11d5fa", func := "rentroll/rentrolltop.TopRefused", spec := "topRefused", unfollowed := true, recurses := true, named := ["rentroll/record.fields"], plainKeys := false, apart := false, laid := [("rentroll/record.fields", laid_rentroll_record_fields)] }
def TopRefusedSaid : Prop := topRefusedRow.holds Tryz.pinned (OpenSpec.ofChange topRefusedSpec)

/-- ITS FALSE NEIGHBOUR: 'it returns false'. Refute it at one input. -/
def topRefusedWrong : ChangeSpec := { name := "topRefused", fn := fun _ => fun
  | [d1, d2, d3] => { results := [.lit (.bool false)], args := [d1, d2, d3] }
  | _ => none }
def TopRefusedWrongFalsely : Prop := topRefusedRow.holds Tryz.pinned (OpenSpec.ofChange topRefusedWrong)

/-- 'rentrolltop.TopTraced': WHATEVER THE INPUT: true; the input reads as it did. -/
def topTracedSpec : ChangeSpec := { name := "topTraced", fn := fun _ => fun
  | [d1, d2] => { results := [.lit (.bool true)], args := [d1, d2] }
  | _ => none }
def topTracedRow : OpenClaim := { program := "ytogckmommodmhaagreatdoor", sum := "26922efdefc7556d4daef4d2c41670ba6c0723653811bfaeff279dce3e11d5fa", func := "rentroll/rentrolltop.TopTraced", spec := "topTraced", unfollowed := true, recurses := true, named := ["rentroll/record.fields"], plainKeys := false, apart := false, laid := [("rentroll/record.fields", laid_rentroll_record_fields)] }
def TopTracedSaid : Prop := topTracedRow.holds Tryz.pinned (OpenSpec.ofChange topTracedSpec)

/-- ITS FALSE NEIGHBOUR: 'it returns false'. Refute it at one input. -/
def topTracedWrong : ChangeSpec := { name := "topTraced", fn := fun _ => fun
  | [d1, d2] => { results := [.lit (.bool false)], args := [d1, d2] }
  | _ => none }
def TopTracedWrongFalsely : Prop := topTracedRow.holds Tryz.pinned (OpenSpec.ofChange topTracedWrong)

/-- 'rentrolltop.TopQuiet': WHATEVER THE INPUT: true; the input reads as it did. -/
def topQuietSpec : ChangeSpec := { name := "topQuiet", fn := fun _ => fun
  | [d1, d2] => { results := [.lit (.bool true)], args := [d1, d2] }
  | _ => none }
def topQuietRow : OpenClaim := { program := "ytogckmommodmhaagreatdoor", sum := "26922efdefc7556d4daef4d2c41670ba6c0723653811bfaeff279dce3e11d5fa", func := "rentroll/rentrolltop.TopQuiet", spec := "topQuiet", unfollowed := true, recurses := true, named := ["rentroll/record.fields"], plainKeys := false, apart := false, laid := [("rentroll/record.fields", laid_rentroll_record_fields)] }
def TopQuietSaid : Prop := topQuietRow.holds Tryz.pinned (OpenSpec.ofChange topQuietSpec)

/-- ITS FALSE NEIGHBOUR: 'it returns false'. Refute it at one input. -/
def topQuietWrong : ChangeSpec := { name := "topQuiet", fn := fun _ => fun
  | [d1, d2] => { results := [.lit (.bool false)], args := [d1, d2] }
  | _ => none }
def TopQuietWrongFalsely : Prop := topQuietRow.holds Tryz.pinned (OpenSpec.ofChange topQuietWrong)

/- THE SECOND FORM. 'bulk': how many values and letters a reading holds, each counted each time it is reached (what is shared counts as often as it is met; a slice's spare places count too). A statement '..UptoSaid' is the law's where the arguments, and the package variables that the reading takes, are together of bulk at most 1048576: NARROWER than '..Said'. Prove '..Said' where nothing that the law and all that it calls make is longer than what came in: it says more and counts as full. Else prove '..UptoSaid'. A law counts once. -/
mutual
def uptoBulk {H : Type} : DataW H → Nat
  | .lit (.string bytes) => bytes.length + 1
  | .lit _ => 1
  | .nil => 1
  | .ptr d => uptoBulk d + 1
  | .slice elems spare => uptoBulkAll elems + uptoBulkAll spare + 1
  | .agg parts => uptoBulkAll parts + 1
  | .iface _ d => uptoBulk d + 1
  | .map entries => uptoBulkEntries entries + 1
  | .held _ => 1
def uptoBulkAll {H : Type} : List (DataW H) → Nat
  | [] => 0
  | d :: r => uptoBulk d + uptoBulkAll r
def uptoBulkEntries {H : Type} : List (Lit × DataW H) → Nat
  | [] => 0
  | x :: r => uptoBulkEntry x + uptoBulkEntries r
def uptoBulkEntry {H : Type} : Lit × DataW H → Nat
  | (.string bytes, d) => bytes.length + uptoBulk d + 1
  | (_, d) => uptoBulk d + 1
 end
def uptoSmall : (H : Type) → List (DataW H) → Bool := fun _ ds => decide (uptoBulkAll ds ≤ 1048576)
def OpenSpec.upto (s : _root_.Go.ChangeSpec) : _root_.Go.OpenSpec := { _root_.Go.OpenSpec.ofChange s with cond := some uptoSmall }

/-- 'rentrolllaw.NatNil', WHERE WHAT IT READS IS OF BULK AT MOST 1048576: true; the input reads as it did. -/
def natNilUptoRow : OpenClaim := { program := "ytogckmommodmhaagreatdoor", sum := "26922efdefc7556d4daef4d2c41670ba6c0723653811bfaeff279dce3e11d5fa", func := "rentroll/rentrolllaw.NatNil", spec := "natNil", unfollowed := true, recurses := true, named := ["rentroll/record.fields"], plainKeys := false, apart := false, laid := [("rentroll/record.fields", laid_rentroll_record_fields)], narrowed := true }
def NatNilUptoSaid : Prop := natNilUptoRow.holds Tryz.pinned (OpenSpec.upto natNilSpec)

/-- 'rentrolllaw.NatRuns', WHERE WHAT IT READS IS OF BULK AT MOST 1048576: true; the input reads as it did. -/
def natRunsUptoRow : OpenClaim := { program := "ytogckmommodmhaagreatdoor", sum := "26922efdefc7556d4daef4d2c41670ba6c0723653811bfaeff279dce3e11d5fa", func := "rentroll/rentrolllaw.NatRuns", spec := "natRuns", unfollowed := true, recurses := true, named := ["rentroll/record.fields"], plainKeys := false, apart := false, laid := [("rentroll/record.fields", laid_rentroll_record_fields)], narrowed := true }
def NatRunsUptoSaid : Prop := natRunsUptoRow.holds Tryz.pinned (OpenSpec.upto natRunsSpec)

/-- 'rentrolllaw.NatPlays', WHERE WHAT IT READS IS OF BULK AT MOST 1048576: true; the input reads as it did. -/
def natPlaysUptoRow : OpenClaim := { program := "ytogckmommodmhaagreatdoor", sum := "26922efdefc7556d4daef4d2c41670ba6c0723653811bfaeff279dce3e11d5fa", func := "rentroll/rentrolllaw.NatPlays", spec := "natPlays", unfollowed := true, recurses := true, named := ["rentroll/record.fields"], plainKeys := false, apart := false, laid := [("rentroll/record.fields", laid_rentroll_record_fields)], narrowed := true }
def NatPlaysUptoSaid : Prop := natPlaysUptoRow.holds Tryz.pinned (OpenSpec.upto natPlaysSpec)

/-- 'rentrolltop.TopBack', WHERE WHAT IT READS IS OF BULK AT MOST 1048576: true; the input reads as it did. -/
def topBackUptoRow : OpenClaim := { program := "ytogckmommodmhaagreatdoor", sum := "26922efdefc7556d4daef4d2c41670ba6c0723653811bfaeff279dce3e11d5fa", func := "rentroll/rentrolltop.TopBack", spec := "topBack", unfollowed := true, recurses := true, named := ["rentroll/record.fields"], plainKeys := false, apart := false, laid := [("rentroll/record.fields", laid_rentroll_record_fields)], narrowed := true }
def TopBackUptoSaid : Prop := topBackUptoRow.holds Tryz.pinned (OpenSpec.upto topBackSpec)

/-- 'rentrolltop.TopRate', WHERE WHAT IT READS IS OF BULK AT MOST 1048576: true; the input reads as it did. -/
def topRateUptoRow : OpenClaim := { program := "ytogckmommodmhaagreatdoor", sum := "26922efdefc7556d4daef4d2c41670ba6c0723653811bfaeff279dce3e11d5fa", func := "rentroll/rentrolltop.TopRate", spec := "topRate", unfollowed := true, recurses := true, named := ["rentroll/record.fields"], plainKeys := false, apart := false, laid := [("rentroll/record.fields", laid_rentroll_record_fields)], narrowed := true }
def TopRateUptoSaid : Prop := topRateUptoRow.holds Tryz.pinned (OpenSpec.upto topRateSpec)

/-- 'rentrolltop.TopSums', WHERE WHAT IT READS IS OF BULK AT MOST 1048576: true; the input reads as it did. -/
def topSumsUptoRow : OpenClaim := { program := "ytogckmommodmhaagreatdoor", sum := "26922efdefc7556d4daef4d2c41670ba6c0723653811bfaeff279dce3e11d5fa", func := "rentroll/rentrolltop.TopSums", spec := "topSums", unfollowed := true, recurses := true, named := ["rentroll/record.fields"], plainKeys := false, apart := false, laid := [("rentroll/record.fields", laid_rentroll_record_fields)], narrowed := true }
def TopSumsUptoSaid : Prop := topSumsUptoRow.holds Tryz.pinned (OpenSpec.upto topSumsSpec)

/-- 'rentrolltop.TopOut', WHERE WHAT IT READS IS OF BULK AT MOST 1048576: true; the input reads as it did. -/
def topOutUptoRow : OpenClaim := { program := "ytogckmommodmhaagreatdoor", sum := "26922efdefc7556d4daef4d2c41670ba6c0723653811bfaeff279dce3e11d5fa", func := "rentroll/rentrolltop.TopOut", spec := "topOut", unfollowed := true, recurses := true, named := ["rentroll/record.fields"], plainKeys := false, apart := false, laid := [("rentroll/record.fields", laid_rentroll_record_fields)], narrowed := true }
def TopOutUptoSaid : Prop := topOutUptoRow.holds Tryz.pinned (OpenSpec.upto topOutSpec)

/-- 'rentrolltop.TopIn', WHERE WHAT IT READS IS OF BULK AT MOST 1048576: true; the input reads as it did. -/
def topInUptoRow : OpenClaim := { program := "ytogckmommodmhaagreatdoor", sum := "26922efdefc7556d4daef4d2c41670ba6c0723653811bfaeff279dce3e11d5fa", func := "rentroll/rentrolltop.TopIn", spec := "topIn", unfollowed := true, recurses := true, named := ["rentroll/record.fields"], plainKeys := false, apart := false, laid := [("rentroll/record.fields", laid_rentroll_record_fields)], narrowed := true }
def TopInUptoSaid : Prop := topInUptoRow.holds Tryz.pinned (OpenSpec.upto topInSpec)

/-- 'rentrolltop.TopStrangers', WHERE WHAT IT READS IS OF BULK AT MOST 1048576: true; the input reads as it did. -/
def topStrangersUptoRow : OpenClaim := { program := "ytogckmommodmhaagreatdoor", sum := "26922efdefc7556d4daef4d2c41670ba6c0723653811bfaeff279dce3e11d5fa", func := "rentroll/rentrolltop.TopStrangers", spec := "topStrangers", unfollowed := true, recurses := true, named := ["rentroll/record.fields"], plainKeys := false, apart := false, laid := [("rentroll/record.fields", laid_rentroll_record_fields)], narrowed := true }
def TopStrangersUptoSaid : Prop := topStrangersUptoRow.holds Tryz.pinned (OpenSpec.upto topStrangersSpec)

/-- 'rentrolltop.TopMemory', WHERE WHAT IT READS IS OF BULK AT MOST 1048576: true; the input reads as it did. -/
def topMemoryUptoRow : OpenClaim := { program := "ytogckmommodmhaagreatdoor", sum := "26922efdefc7556d4daef4d2c41670ba6c0723653811bfaeff279dce3e11d5fa", func := "rentroll/rentrolltop.TopMemory", spec := "topMemory", unfollowed := true, recurses := true, named := ["rentroll/record.fields"], plainKeys := false, apart := false, laid := [("rentroll/record.fields", laid_rentroll_record_fields)], narrowed := true }
def TopMemoryUptoSaid : Prop := topMemoryUptoRow.holds Tryz.pinned (OpenSpec.upto topMemorySpec)

/-- 'rentrolltop.TopEnds', WHERE WHAT IT READS IS OF BULK AT MOST 1048576: true; the input reads as it did. -/
def topEndsUptoRow : OpenClaim := { program := "ytogckmommodmhaagreatdoor", sum := "26922efdefc7556d4daef4d2c41670ba6c0723653811bfaeff279dce3e11d5fa", func := "rentroll/rentrolltop.TopEnds", spec := "topEnds", unfollowed := true, recurses := true, named := ["rentroll/record.fields"], plainKeys := false, apart := false, laid := [("rentroll/record.fields", laid_rentroll_record_fields)], narrowed := true }
def TopEndsUptoSaid : Prop := topEndsUptoRow.holds Tryz.pinned (OpenSpec.upto topEndsSpec)

/-- 'rentrolltop.TopDrained', WHERE WHAT IT READS IS OF BULK AT MOST 1048576: true; the input reads as it did. -/
def topDrainedUptoRow : OpenClaim := { program := "ytogckmommodmhaagreatdoor", sum := "26922efdefc7556d4daef4d2c41670ba6c0723653811bfaeff279dce3e11d5fa", func := "rentroll/rentrolltop.TopDrained", spec := "topDrained", unfollowed := true, recurses := true, named := ["rentroll/record.fields"], plainKeys := false, apart := false, laid := [("rentroll/record.fields", laid_rentroll_record_fields)], narrowed := true }
def TopDrainedUptoSaid : Prop := topDrainedUptoRow.holds Tryz.pinned (OpenSpec.upto topDrainedSpec)

/-- 'rentrolltop.TopRuns', WHERE WHAT IT READS IS OF BULK AT MOST 1048576: true; the input reads as it did. -/
def topRunsUptoRow : OpenClaim := { program := "ytogckmommodmhaagreatdoor", sum := "26922efdefc7556d4daef4d2c41670ba6c0723653811bfaeff279dce3e11d5fa", func := "rentroll/rentrolltop.TopRuns", spec := "topRuns", unfollowed := true, recurses := true, named := ["rentroll/record.fields"], plainKeys := false, apart := false, laid := [("rentroll/record.fields", laid_rentroll_record_fields)], narrowed := true }
def TopRunsUptoSaid : Prop := topRunsUptoRow.holds Tryz.pinned (OpenSpec.upto topRunsSpec)

/-- 'rentrolltop.TopGood', WHERE WHAT IT READS IS OF BULK AT MOST 1048576: true; the input reads as it did. -/
def topGoodUptoRow : OpenClaim := { program := "ytogckmommodmhaagreatdoor", sum := "26922efdefc7556d4daef4d2c41670ba6c0723653811bfaeff279dce3e11d5fa", func := "rentroll/rentrolltop.TopGood", spec := "topGood", unfollowed := true, recurses := true, named := ["rentroll/record.fields"], plainKeys := false, apart := false, laid := [("rentroll/record.fields", laid_rentroll_record_fields)], narrowed := true }
def TopGoodUptoSaid : Prop := topGoodUptoRow.holds Tryz.pinned (OpenSpec.upto topGoodSpec)

/-- 'rentrolltop.TopRefused', WHERE WHAT IT READS IS OF BULK AT MOST 1048576: true; the input reads as it did. -/
def topRefusedUptoRow : OpenClaim := { program := "ytogckmommodmhaagreatdoor", sum := "26922efdefc7556d4daef4d2c41670ba6c0723653811bfaeff279dce3e11d5fa", func := "rentroll/rentrolltop.TopRefused", spec := "topRefused", unfollowed := true, recurses := true, named := ["rentroll/record.fields"], plainKeys := false, apart := false, laid := [("rentroll/record.fields", laid_rentroll_record_fields)], narrowed := true }
def TopRefusedUptoSaid : Prop := topRefusedUptoRow.holds Tryz.pinned (OpenSpec.upto topRefusedSpec)

/-- 'rentrolltop.TopTraced', WHERE WHAT IT READS IS OF BULK AT MOST 1048576: true; the input reads as it did. -/
def topTracedUptoRow : OpenClaim := { program := "ytogckmommodmhaagreatdoor", sum := "26922efdefc7556d4daef4d2c41670ba6c0723653811bfaeff279dce3e11d5fa", func := "rentroll/rentrolltop.TopTraced", spec := "topTraced", unfollowed := true, recurses := true, named := ["rentroll/record.fields"], plainKeys := false, apart := false, laid := [("rentroll/record.fields", laid_rentroll_record_fields)], narrowed := true }
def TopTracedUptoSaid : Prop := topTracedUptoRow.holds Tryz.pinned (OpenSpec.upto topTracedSpec)

/-- 'rentrolltop.TopQuiet', WHERE WHAT IT READS IS OF BULK AT MOST 1048576: true; the input reads as it did. -/
def topQuietUptoRow : OpenClaim := { program := "ytogckmommodmhaagreatdoor", sum := "26922efdefc7556d4daef4d2c41670ba6c0723653811bfaeff279dce3e11d5fa", func := "rentroll/rentrolltop.TopQuiet", spec := "topQuiet", unfollowed := true, recurses := true, named := ["rentroll/record.fields"], plainKeys := false, apart := false, laid := [("rentroll/record.fields", laid_rentroll_record_fields)], narrowed := true }
def TopQuietUptoSaid : Prop := topQuietUptoRow.holds Tryz.pinned (OpenSpec.upto topQuietSpec)

end Rows
end Go.Proofs.YtogckmommodmhaaGreatDoor
