/-
  DERIVED. GIVEN WITH THE SEED: THE CARDS: each row of YtglkiaiipkdkbaaDoorRows.lean that lists a variable, with what it lists TIED to the program's text (the seventh form; the later family's looks); each row that meets fmt, with fmt's text TOLD by the authors' own Lean function (tested against real Go, not proved from fmt's source: count such statements apart). THE CARD IS WHAT COUNTS. Prove the row's statement (the work); the ties are given (YtglkiaiipkdkbaaDoorTie.lean); close each card by the builder's one call (the guide's Derived/Test/ToyasCard.lean, 'card_holds'). Laid BY PROGRAM, IN A SANDBOX (cutbox-door.mjs). By AI agents, Wed Nov 11 2026. No macro, syntax, notation, axiom, sorry.
-/
import Derived.Test.YtglkiaiipkdkbaaDoorRows
import GoSem.ClaimSeven
namespace Go.Proofs.YtglkiaiipkdkbaaDoor
namespace Rows

/-- THE TIED CARD OF 'rentrolllaw.RecordOwners'. -/
def recordOwnersCard : Claim7 := { stood := { row := recordOwnersRow, standIns := [], harness := (true, "25bdb0b673c78c612fbeb3dc1a877d374c075da8a4e2b36800f2713b584164fb"), looks := false }, kinds := [], alts := [], laidByText := true, laidKinds := [.data], laidTests := true, laidLooks := .later }
def RecordOwnersCardSaid : Prop := Claim7.holds Tryd.pinned (.plain (OpenSpec.ofChange recordOwnersSpec)) recordOwnersCard

/-- THE TIED CARD OF 'rentrollkeep.RecordHeld'. -/
def recordHeldCard : Claim7 := { stood := { row := recordHeldRow, standIns := [], harness := (true, "25bdb0b673c78c612fbeb3dc1a877d374c075da8a4e2b36800f2713b584164fb"), looks := false }, kinds := [], alts := [], laidByText := true, laidKinds := [.data], laidTests := true, laidLooks := .later }
def RecordHeldCardSaid : Prop := Claim7.holds Tryd.pinned (.plain (OpenSpec.ofChange recordHeldSpec)) recordHeldCard

/-- THE TIED CARD OF 'rentrolllaw.RecordTells'. -/
def recordTellsCard : Claim7 := { stood := { row := recordTellsRow, standIns := [], harness := (true, "25bdb0b673c78c612fbeb3dc1a877d374c075da8a4e2b36800f2713b584164fb"), looks := false }, kinds := [], alts := [], laidByText := true, laidKinds := [.data], laidTests := true, laidLooks := .later }
def RecordTellsCardSaid : Prop := Claim7.holds Tryd.pinned (.plain (OpenSpec.ofChange recordTellsSpec)) recordTellsCard

/-- THE TIED CARD OF 'rentrolllaw.RecordReads'. -/
def recordReadsCard : Claim7 := { stood := { row := recordReadsRow, standIns := [], harness := (true, "25bdb0b673c78c612fbeb3dc1a877d374c075da8a4e2b36800f2713b584164fb"), looks := false }, kinds := [], alts := [], laidByText := true, laidKinds := [.data], laidTests := true, laidLooks := .later }
def RecordReadsCardSaid : Prop := Claim7.holds Tryd.pinned (.plain (OpenSpec.ofChange recordReadsSpec)) recordReadsCard

/-- THE TIED CARD OF 'rentrollkeep.RecordBack'. -/
def recordBackCard : Claim7 := { stood := { row := recordBackRow, standIns := [], harness := (true, "25bdb0b673c78c612fbeb3dc1a877d374c075da8a4e2b36800f2713b584164fb"), looks := false }, kinds := [], alts := [], laidByText := true, laidKinds := [.data], laidTests := true, laidLooks := .later }
def RecordBackCardSaid : Prop := Claim7.holds Tryd.pinned (.plain (OpenSpec.ofChange recordBackSpec)) recordBackCard

/-- THE SECOND FORM's CARD OF 'rentrolllaw.RecordOwners'. -/
def recordOwnersUptoCard : Claim7 := { stood := { row := recordOwnersUptoRow, standIns := [], harness := (true, "25bdb0b673c78c612fbeb3dc1a877d374c075da8a4e2b36800f2713b584164fb"), looks := false }, kinds := [], alts := [], laidByText := true, laidKinds := [.data], laidTests := true, laidLooks := .later }
def RecordOwnersUptoCardSaid : Prop := Claim7.holds Tryd.pinned (.plain (OpenSpec.upto recordOwnersSpec)) recordOwnersUptoCard

/-- THE SECOND FORM's CARD OF 'rentrollkeep.RecordHeld'. -/
def recordHeldUptoCard : Claim7 := { stood := { row := recordHeldUptoRow, standIns := [], harness := (true, "25bdb0b673c78c612fbeb3dc1a877d374c075da8a4e2b36800f2713b584164fb"), looks := false }, kinds := [], alts := [], laidByText := true, laidKinds := [.data], laidTests := true, laidLooks := .later }
def RecordHeldUptoCardSaid : Prop := Claim7.holds Tryd.pinned (.plain (OpenSpec.upto recordHeldSpec)) recordHeldUptoCard

/-- THE SECOND FORM's CARD OF 'rentrolllaw.RecordTells'. -/
def recordTellsUptoCard : Claim7 := { stood := { row := recordTellsUptoRow, standIns := [], harness := (true, "25bdb0b673c78c612fbeb3dc1a877d374c075da8a4e2b36800f2713b584164fb"), looks := false }, kinds := [], alts := [], laidByText := true, laidKinds := [.data], laidTests := true, laidLooks := .later }
def RecordTellsUptoCardSaid : Prop := Claim7.holds Tryd.pinned (.plain (OpenSpec.upto recordTellsSpec)) recordTellsUptoCard

/-- THE SECOND FORM's CARD OF 'rentrolllaw.RecordReads'. -/
def recordReadsUptoCard : Claim7 := { stood := { row := recordReadsUptoRow, standIns := [], harness := (true, "25bdb0b673c78c612fbeb3dc1a877d374c075da8a4e2b36800f2713b584164fb"), looks := false }, kinds := [], alts := [], laidByText := true, laidKinds := [.data], laidTests := true, laidLooks := .later }
def RecordReadsUptoCardSaid : Prop := Claim7.holds Tryd.pinned (.plain (OpenSpec.upto recordReadsSpec)) recordReadsUptoCard

/-- THE SECOND FORM's CARD OF 'rentrollkeep.RecordBack'. -/
def recordBackUptoCard : Claim7 := { stood := { row := recordBackUptoRow, standIns := [], harness := (true, "25bdb0b673c78c612fbeb3dc1a877d374c075da8a4e2b36800f2713b584164fb"), looks := false }, kinds := [], alts := [], laidByText := true, laidKinds := [.data], laidTests := true, laidLooks := .later }
def RecordBackUptoCardSaid : Prop := Claim7.holds Tryd.pinned (.plain (OpenSpec.upto recordBackSpec)) recordBackUptoCard
end Rows
end Go.Proofs.YtglkiaiipkdkbaaDoor
