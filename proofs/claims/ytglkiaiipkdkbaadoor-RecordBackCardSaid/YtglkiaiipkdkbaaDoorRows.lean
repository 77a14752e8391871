/-
  NARROWER THAN 'FOR EVERY INPUT', by the rows' own cells (each row's printed sentence says how): RecordOwners: laid · RecordHeld: laid · RecordTells: laid · RecordReads: laid · RecordBack: laid.
  DERIVED. THE GIVEN ROWS OF THIS SEAT. 5 by the template 'for every input the law returns true; each argument reads behind the call as it read before'; 0 by the template 'total and deterministic' (their statements: YtglkiaiipkdkbaaDoorTotals.lean).
  GIVEN WITH THE SEED: the statements are not yours to turn. If you find one false, say at which input.
  Laid BY PROGRAM, IN A SANDBOX (cutbox-rows.mjs): the forced cells as the released guide's own fill.sh prints them over the translation 14471b4a939b4bce… (all of the seat's roots in one cut). By AI agents, Wed Nov 11 2026. No macro, syntax, notation, axiom, sorry.
-/
import Derived.Test.YtglkiaiipkdkbaaDoorChecked
import GoSem.Claim
import GoSem.ClaimJoined
import GoSem.ClaimMapViews
import Derived.JoinedTies
import Derived.KernelRfl
namespace Go.Proofs.YtglkiaiipkdkbaaDoor
/- THE CELL 'sum', in the pinned program and in every row, IS THE sha256 OF THE DUMP (.gsa) THAT YtglkiaiipkdkbaaDoorProg.lean LOADS. Nothing in Lean hashes anything: it is a label: what it is worth is what the hold of that sum in a sandbox is worth. -/
noncomputable def Tryd.pinned : Pinned := { name := "ytglkiaiipkdkbaadoor", sum := "14471b4a939b4bce1a280e0b57a6831a3d69a63fa6285f5d6a03eae2712a1eeb", checked := Tryd.checked }
namespace Rows
def none {H : Type} : Left H := { results := [], args := [] }

/- WHAT THE LISTED PACKAGE-LEVEL VARIABLES READ AS WHEN THE CALL BEGINS. Each datum BY PROGRAM (the guide's laid-datum.mjs) off the statement by which the dump's own 'gosem.cut.vars' lays the variable. In a bare row this is a premise. The card (YtglkiaiipkdkbaaDoorCards.lean) ties it to the program's text. -/
def laid_rentroll_record_fields {H : Type} : DataW H := .agg [.agg [.lit (.int .i64 323), .lit (.int .i64 8)], .agg [.lit (.int .i64 8), .lit (.int .i64 4)], .agg [.lit (.int .i64 225), .lit (.int .i64 4)], .agg [.lit (.int .i64 361), .lit (.int .i64 2)], .agg [.lit (.int .i64 362), .lit (.int .i64 2)], .agg [.lit (.int .i64 230), .lit (.int .i64 1)]]

/-- 'rentrolllaw.RecordOwners': WHATEVER THE INPUT: true; the input reads as it did. -/
def recordOwnersSpec : ChangeSpec := { name := "recordOwners", fn := fun _ => fun
  | [d] => { results := [.lit (.bool true)], args := [d] }
  | _ => none }
def recordOwnersRow : OpenClaim := { program := "ytglkiaiipkdkbaadoor", sum := "14471b4a939b4bce1a280e0b57a6831a3d69a63fa6285f5d6a03eae2712a1eeb", func := "rentroll/rentrolllaw.RecordOwners", spec := "recordOwners", named := ["rentroll/record.fields"], apart := false, laid := [("rentroll/record.fields", laid_rentroll_record_fields)] }
def RecordOwnersSaid : Prop := recordOwnersRow.holds Tryd.pinned (OpenSpec.ofChange recordOwnersSpec)

/-- ITS FALSE NEIGHBOUR: 'it returns false'. Refute it at one input. -/
def recordOwnersWrong : ChangeSpec := { name := "recordOwners", fn := fun _ => fun
  | [d] => { results := [.lit (.bool false)], args := [d] }
  | _ => none }
def RecordOwnersWrongFalsely : Prop := recordOwnersRow.holds Tryd.pinned (OpenSpec.ofChange recordOwnersWrong)

/-- 'rentrollkeep.RecordHeld': WHATEVER THE INPUT: true; the input reads as it did. -/
def recordHeldSpec : ChangeSpec := { name := "recordHeld", fn := fun _ => fun
  | [d] => { results := [.lit (.bool true)], args := [d] }
  | _ => none }
def recordHeldRow : OpenClaim := { program := "ytglkiaiipkdkbaadoor", sum := "14471b4a939b4bce1a280e0b57a6831a3d69a63fa6285f5d6a03eae2712a1eeb", func := "rentroll/rentrollkeep.RecordHeld", spec := "recordHeld", named := ["rentroll/record.fields"], apart := false, laid := [("rentroll/record.fields", laid_rentroll_record_fields)] }
def RecordHeldSaid : Prop := recordHeldRow.holds Tryd.pinned (OpenSpec.ofChange recordHeldSpec)

/-- ITS FALSE NEIGHBOUR: 'it returns false'. Refute it at one input. -/
def recordHeldWrong : ChangeSpec := { name := "recordHeld", fn := fun _ => fun
  | [d] => { results := [.lit (.bool false)], args := [d] }
  | _ => none }
def RecordHeldWrongFalsely : Prop := recordHeldRow.holds Tryd.pinned (OpenSpec.ofChange recordHeldWrong)

/-- 'rentrolllaw.RecordTells': WHATEVER THE INPUT: true; the input reads as it did. -/
def recordTellsSpec : ChangeSpec := { name := "recordTells", fn := fun _ => fun
  | [d1, d2] => { results := [.lit (.bool true)], args := [d1, d2] }
  | _ => none }
def recordTellsRow : OpenClaim := { program := "ytglkiaiipkdkbaadoor", sum := "14471b4a939b4bce1a280e0b57a6831a3d69a63fa6285f5d6a03eae2712a1eeb", func := "rentroll/rentrolllaw.RecordTells", spec := "recordTells", named := ["rentroll/record.fields"], apart := false, laid := [("rentroll/record.fields", laid_rentroll_record_fields)] }
def RecordTellsSaid : Prop := recordTellsRow.holds Tryd.pinned (OpenSpec.ofChange recordTellsSpec)

/-- ITS FALSE NEIGHBOUR: 'it returns false'. Refute it at one input. -/
def recordTellsWrong : ChangeSpec := { name := "recordTells", fn := fun _ => fun
  | [d1, d2] => { results := [.lit (.bool false)], args := [d1, d2] }
  | _ => none }
def RecordTellsWrongFalsely : Prop := recordTellsRow.holds Tryd.pinned (OpenSpec.ofChange recordTellsWrong)

/-- 'rentrolllaw.RecordReads': WHATEVER THE INPUT: true; the input reads as it did. -/
def recordReadsSpec : ChangeSpec := { name := "recordReads", fn := fun _ => fun
  | [d] => { results := [.lit (.bool true)], args := [d] }
  | _ => none }
def recordReadsRow : OpenClaim := { program := "ytglkiaiipkdkbaadoor", sum := "14471b4a939b4bce1a280e0b57a6831a3d69a63fa6285f5d6a03eae2712a1eeb", func := "rentroll/rentrolllaw.RecordReads", spec := "recordReads", named := ["rentroll/record.fields"], apart := false, laid := [("rentroll/record.fields", laid_rentroll_record_fields)] }
def RecordReadsSaid : Prop := recordReadsRow.holds Tryd.pinned (OpenSpec.ofChange recordReadsSpec)

/-- ITS FALSE NEIGHBOUR: 'it returns false'. Refute it at one input. -/
def recordReadsWrong : ChangeSpec := { name := "recordReads", fn := fun _ => fun
  | [d] => { results := [.lit (.bool false)], args := [d] }
  | _ => none }
def RecordReadsWrongFalsely : Prop := recordReadsRow.holds Tryd.pinned (OpenSpec.ofChange recordReadsWrong)

/-- 'rentrollkeep.RecordBack': WHATEVER THE INPUT: true; the input reads as it did. -/
def recordBackSpec : ChangeSpec := { name := "recordBack", fn := fun _ => fun
  | [d] => { results := [.lit (.bool true)], args := [d] }
  | _ => none }
def recordBackRow : OpenClaim := { program := "ytglkiaiipkdkbaadoor", sum := "14471b4a939b4bce1a280e0b57a6831a3d69a63fa6285f5d6a03eae2712a1eeb", func := "rentroll/rentrollkeep.RecordBack", spec := "recordBack", named := ["rentroll/record.fields"], apart := false, laid := [("rentroll/record.fields", laid_rentroll_record_fields)] }
def RecordBackSaid : Prop := recordBackRow.holds Tryd.pinned (OpenSpec.ofChange recordBackSpec)

/-- ITS FALSE NEIGHBOUR: 'it returns false'. Refute it at one input. -/
def recordBackWrong : ChangeSpec := { name := "recordBack", fn := fun _ => fun
  | [d] => { results := [.lit (.bool false)], args := [d] }
  | _ => none }
def RecordBackWrongFalsely : Prop := recordBackRow.holds Tryd.pinned (OpenSpec.ofChange recordBackWrong)

/- THE SECOND FORM. 'bulk': how many values and letters a reading holds, each counted each time it is reached (what is shared counts as often as it is met; a slice's spare places count too). A statement '..UptoSaid' is the law's where the arguments, and the package variables that the reading takes, are together of bulk at most 1048576: NARROWER than '..Said'. Prove '..Said' where nothing that the law and all that it calls make is longer than what came in: it says more and counts as full. Else prove '..UptoSaid'. A law counts once. -/
mutual
def uptoBulk {H : Type} : DataW H → Nat
  | .lit (.string bytes) => bytes.length + 1
  | .lit _ => 1
  | .nil => 1
  | .ptr d => uptoBulk d + 1
  | .slice elems spare => uptoBulkAll elems + uptoBulkAll spare + 1
  | .agg parts => uptoBulkAll parts + 1
  | .iface _ d => uptoBulk d + 1
  | .map entries => uptoBulkEntries entries + 1
  | .held _ => 1
def uptoBulkAll {H : Type} : List (DataW H) → Nat
  | [] => 0
  | d :: r => uptoBulk d + uptoBulkAll r
def uptoBulkEntries {H : Type} : List (Lit × DataW H) → Nat
  | [] => 0
  | x :: r => uptoBulkEntry x + uptoBulkEntries r
def uptoBulkEntry {H : Type} : Lit × DataW H → Nat
  | (.string bytes, d) => bytes.length + uptoBulk d + 1
  | (_, d) => uptoBulk d + 1
 end
def uptoSmall : (H : Type) → List (DataW H) → Bool := fun _ ds => decide (uptoBulkAll ds ≤ 1048576)
def OpenSpec.upto (s : _root_.Go.ChangeSpec) : _root_.Go.OpenSpec := { _root_.Go.OpenSpec.ofChange s with cond := some uptoSmall }

/-- 'rentrolllaw.RecordOwners', WHERE WHAT IT READS IS OF BULK AT MOST 1048576: true; the input reads as it did. -/
def recordOwnersUptoRow : OpenClaim := { program := "ytglkiaiipkdkbaadoor", sum := "14471b4a939b4bce1a280e0b57a6831a3d69a63fa6285f5d6a03eae2712a1eeb", func := "rentroll/rentrolllaw.RecordOwners", spec := "recordOwners", named := ["rentroll/record.fields"], apart := false, laid := [("rentroll/record.fields", laid_rentroll_record_fields)], narrowed := true }
def RecordOwnersUptoSaid : Prop := recordOwnersUptoRow.holds Tryd.pinned (OpenSpec.upto recordOwnersSpec)

/-- 'rentrollkeep.RecordHeld', WHERE WHAT IT READS IS OF BULK AT MOST 1048576: true; the input reads as it did. -/
def recordHeldUptoRow : OpenClaim := { program := "ytglkiaiipkdkbaadoor", sum := "14471b4a939b4bce1a280e0b57a6831a3d69a63fa6285f5d6a03eae2712a1eeb", func := "rentroll/rentrollkeep.RecordHeld", spec := "recordHeld", named := ["rentroll/record.fields"], apart := false, laid := [("rentroll/record.fields", laid_rentroll_record_fields)], narrowed := true }
def RecordHeldUptoSaid : Prop := recordHeldUptoRow.holds Tryd.pinned (OpenSpec.upto recordHeldSpec)

/-- 'rentrolllaw.RecordTells', WHERE WHAT IT READS IS OF BULK AT MOST 1048576: true; the input reads as it did. -/
def recordTellsUptoRow : OpenClaim := { program := "ytglkiaiipkdkbaadoor", sum := "14471b4a939b4bce1a280e0b57a6831a3d69a63fa6285f5d6a03eae2712a1eeb", func := "rentroll/rentrolllaw.RecordTells", spec := "recordTells", named := ["rentroll/record.fields"], apart := false, laid := [("rentroll/record.fields", laid_rentroll_record_fields)], narrowed := true }
def RecordTellsUptoSaid : Prop := recordTellsUptoRow.holds Tryd.pinned (OpenSpec.upto recordTellsSpec)

/-- 'rentrolllaw.RecordReads', WHERE WHAT IT READS IS OF BULK AT MOST 1048576: true; the input reads as it did. -/
def recordReadsUptoRow : OpenClaim := { program := "ytglkiaiipkdkbaadoor", sum := "14471b4a939b4bce1a280e0b57a6831a3d69a63fa6285f5d6a03eae2712a1eeb", func := "rentroll/rentrolllaw.RecordReads", spec := "recordReads", named := ["rentroll/record.fields"], apart := false, laid := [("rentroll/record.fields", laid_rentroll_record_fields)], narrowed := true }
def RecordReadsUptoSaid : Prop := recordReadsUptoRow.holds Tryd.pinned (OpenSpec.upto recordReadsSpec)

/-- 'rentrollkeep.RecordBack', WHERE WHAT IT READS IS OF BULK AT MOST 1048576: true; the input reads as it did. -/
def recordBackUptoRow : OpenClaim := { program := "ytglkiaiipkdkbaadoor", sum := "14471b4a939b4bce1a280e0b57a6831a3d69a63fa6285f5d6a03eae2712a1eeb", func := "rentroll/rentrollkeep.RecordBack", spec := "recordBack", named := ["rentroll/record.fields"], apart := false, laid := [("rentroll/record.fields", laid_rentroll_record_fields)], narrowed := true }
def RecordBackUptoSaid : Prop := recordBackUptoRow.holds Tryd.pinned (OpenSpec.upto recordBackSpec)

end Rows
end Go.Proofs.YtglkiaiipkdkbaaDoor
