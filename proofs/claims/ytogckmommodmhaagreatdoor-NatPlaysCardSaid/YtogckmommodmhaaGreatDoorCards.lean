/-
  DERIVED. GIVEN WITH THE SEED: THE CARDS: each row of YtogckmommodmhaaGreatDoorRows.lean that lists a variable, with what it lists TIED to the program's text (the seventh form; the later family's looks); each row that meets fmt, with fmt's text TOLD by the authors' own Lean function (tested against real Go, not proved from fmt's source: count such statements apart). THE CARD IS WHAT COUNTS. Prove the row's statement (the work); the ties are given (YtogckmommodmhaaGreatDoorTie.lean); close each card by the builder's one call (the guide's Derived/Test/ToyasCard.lean, 'card_holds'). Laid BY PROGRAM, IN A SANDBOX (cutbox-door.mjs). By AI agents, Wed Nov 11 2026. No macro, syntax, notation, axiom, sorry.
-/
import Derived.Test.YtogckmommodmhaaGreatDoorRows
import GoSem.ClaimSeven
namespace Go.Proofs.YtogckmommodmhaaGreatDoor
namespace Rows

/-- THE TIED CARD OF 'rentrolllaw.NatNil'. -/
def natNilCard : Claim7 := { stood := { row := natNilRow, standIns := [], harness := (true, "f229922ab263b5ad4a7664cca405075e8d7e254a52807af5b8c50e9466044369"), looks := false }, kinds := [], alts := [], laidByText := true, laidKinds := [.data], laidTests := true, laidLooks := .later }
def NatNilCardSaid : Prop := Claim7.holds Tryz.pinned (.plain (OpenSpec.ofChange natNilSpec)) natNilCard

/-- THE TIED CARD OF 'rentrolllaw.NatRuns'. -/
def natRunsCard : Claim7 := { stood := { row := natRunsRow, standIns := [], harness := (true, "f229922ab263b5ad4a7664cca405075e8d7e254a52807af5b8c50e9466044369"), looks := false }, kinds := [], alts := [], laidByText := true, laidKinds := [.data], laidTests := true, laidLooks := .later }
def NatRunsCardSaid : Prop := Claim7.holds Tryz.pinned (.plain (OpenSpec.ofChange natRunsSpec)) natRunsCard

/-- THE TIED CARD OF 'rentrolllaw.NatPlays'. -/
def natPlaysCard : Claim7 := { stood := { row := natPlaysRow, standIns := [], harness := (true, "f229922ab263b5ad4a7664cca405075e8d7e254a52807af5b8c50e9466044369"), looks := false }, kinds := [], alts := [], laidByText := true, laidKinds := [.data], laidTests := true, laidLooks := .later }
def NatPlaysCardSaid : Prop := Claim7.holds Tryz.pinned (.plain (OpenSpec.ofChange natPlaysSpec)) natPlaysCard

/-- THE TIED CARD OF 'rentrolltop.TopBack'. -/
def topBackCard : Claim7 := { stood := { row := topBackRow, standIns := [], harness := (true, "f229922ab263b5ad4a7664cca405075e8d7e254a52807af5b8c50e9466044369"), looks := false }, kinds := [], alts := [], laidByText := true, laidKinds := [.data], laidTests := true, laidLooks := .later }
def TopBackCardSaid : Prop := Claim7.holds Tryz.pinned (.plain (OpenSpec.ofChange topBackSpec)) topBackCard

/-- THE TIED CARD OF 'rentrolltop.TopRate'. -/
def topRateCard : Claim7 := { stood := { row := topRateRow, standIns := [], harness := (true, "f229922ab263b5ad4a7664cca405075e8d7e254a52807af5b8c50e9466044369"), looks := false }, kinds := [], alts := [], laidByText := true, laidKinds := [.data], laidTests := true, laidLooks := .later }
def TopRateCardSaid : Prop := Claim7.holds Tryz.pinned (.plain (OpenSpec.ofChange topRateSpec)) topRateCard

/-- THE TIED CARD OF 'rentrolltop.TopSums'. -/
def topSumsCard : Claim7 := { stood := { row := topSumsRow, standIns := [], harness := (true, "f229922ab263b5ad4a7664cca405075e8d7e254a52807af5b8c50e9466044369"), looks := false }, kinds := [], alts := [], laidByText := true, laidKinds := [.data], laidTests := true, laidLooks := .later }
def TopSumsCardSaid : Prop := Claim7.holds Tryz.pinned (.plain (OpenSpec.ofChange topSumsSpec)) topSumsCard

/-- THE TIED CARD OF 'rentrolltop.TopOut'. -/
def topOutCard : Claim7 := { stood := { row := topOutRow, standIns := [], harness := (true, "f229922ab263b5ad4a7664cca405075e8d7e254a52807af5b8c50e9466044369"), looks := false }, kinds := [], alts := [], laidByText := true, laidKinds := [.data], laidTests := true, laidLooks := .later }
def TopOutCardSaid : Prop := Claim7.holds Tryz.pinned (.plain (OpenSpec.ofChange topOutSpec)) topOutCard

/-- THE TIED CARD OF 'rentrolltop.TopIn'. -/
def topInCard : Claim7 := { stood := { row := topInRow, standIns := [], harness := (true, "f229922ab263b5ad4a7664cca405075e8d7e254a52807af5b8c50e9466044369"), looks := false }, kinds := [], alts := [], laidByText := true, laidKinds := [.data], laidTests := true, laidLooks := .later }
def TopInCardSaid : Prop := Claim7.holds Tryz.pinned (.plain (OpenSpec.ofChange topInSpec)) topInCard

/-- THE TIED CARD OF 'rentrolltop.TopStrangers'. -/
def topStrangersCard : Claim7 := { stood := { row := topStrangersRow, standIns := [], harness := (true, "f229922ab263b5ad4a7664cca405075e8d7e254a52807af5b8c50e9466044369"), looks := false }, kinds := [], alts := [], laidByText := true, laidKinds := [.data], laidTests := true, laidLooks := .later }
def TopStrangersCardSaid : Prop := Claim7.holds Tryz.pinned (.plain (OpenSpec.ofChange topStrangersSpec)) topStrangersCard

/-- THE TIED CARD OF 'rentrolltop.TopMemory'. -/
def topMemoryCard : Claim7 := { stood := { row := topMemoryRow, standIns := [], harness := (true, "f229922ab263b5ad4a7664cca405075e8d7e254a52807af5b8c50e9466044369"), looks := false }, kinds := [], alts := [], laidByText := true, laidKinds := [.data], laidTests := true, laidLooks := .later }
def TopMemoryCardSaid : Prop := Claim7.holds Tryz.pinned (.plain (OpenSpec.ofChange topMemorySpec)) topMemoryCard

/-- THE TIED CARD OF 'rentrolltop.TopEnds'. -/
def topEndsCard : Claim7 := { stood := { row := topEndsRow, standIns := [], harness := (true, "f229922ab263b5ad4a7664cca405075e8d7e254a52807af5b8c50e9466044369"), looks := false }, kinds := [], alts := [], laidByText := true, laidKinds := [.data], laidTests := true, laidLooks := .later }
def TopEndsCardSaid : Prop := Claim7.holds Tryz.pinned (.plain (OpenSpec.ofChange topEndsSpec)) topEndsCard

/-- THE TIED CARD OF 'rentrolltop.TopDrained'. -/
def topDrainedCard : Claim7 := { stood := { row := topDrainedRow, standIns := [], harness := (true, "f229922ab263b5ad4a7664cca405075e8d7e254a52807af5b8c50e9466044369"), looks := false }, kinds := [], alts := [], laidByText := true, laidKinds := [.data], laidTests := true, laidLooks := .later }
def TopDrainedCardSaid : Prop := Claim7.holds Tryz.pinned (.plain (OpenSpec.ofChange topDrainedSpec)) topDrainedCard

/-- THE TIED CARD OF 'rentrolltop.TopRuns'. -/
def topRunsCard : Claim7 := { stood := { row := topRunsRow, standIns := [], harness := (true, "f229922ab263b5ad4a7664cca405075e8d7e254a52807af5b8c50e9466044369"), looks := false }, kinds := [], alts := [], laidByText := true, laidKinds := [.data], laidTests := true, laidLooks := .later }
def TopRunsCardSaid : Prop := Claim7.holds Tryz.pinned (.plain (OpenSpec.ofChange topRunsSpec)) topRunsCard

/-- THE TIED CARD OF 'rentrolltop.TopGood'. -/
def topGoodCard : Claim7 := { stood := { row := topGoodRow, standIns := [], harness := (true, "f229922ab263b5ad4a7664cca405075e8d7e254a52807af5b8c50e9466044369"), looks := false }, kinds := [], alts := [], laidByText := true, laidKinds := [.data], laidTests := true, laidLooks := .later }
def TopGoodCardSaid : Prop := Claim7.holds Tryz.pinned (.plain (OpenSpec.ofChange topGoodSpec)) topGoodCard

/-- THE TIED CARD OF 'rentrolltop.TopRefused'. -/
def topRefusedCard : Claim7 := { stood := { row := topRefusedRow, standIns := [], harness := (true, "f229922ab263b5ad4a7664cca405075e8d7e254a52807af5b8c50e9466044369"), looks := false }, kinds := [], alts := [], laidByText := true, laidKinds := [.data], laidTests := true, laidLooks := .later }
def TopRefusedCardSaid : Prop := Claim7.holds Tryz.pinned (.plain (OpenSpec.ofChange topRefusedSpec)) topRefusedCard

/-- THE TIED CARD OF 'rentrolltop.TopTraced'. -/
def topTracedCard : Claim7 := { stood := { row := topTracedRow, standIns := [], harness := (true, "f229922ab263b5ad4a7664cca405075e8d7e254a52807af5b8c50e9466044369"), looks := false }, kinds := [], alts := [], laidByText := true, laidKinds := [.data], laidTests := true, laidLooks := .later }
def TopTracedCardSaid : Prop := Claim7.holds Tryz.pinned (.plain (OpenSpec.ofChange topTracedSpec)) topTracedCard

/-- THE TIED CARD OF 'rentrolltop.TopQuiet'. -/
def topQuietCard : Claim7 := { stood := { row := topQuietRow, standIns := [], harness := (true, "f229922ab263b5ad4a7664cca405075e8d7e254a52807af5b8c50e9466044369"), looks := false }, kinds := [], alts := [], laidByText := true, laidKinds := [.data], laidTests := true, laidLooks := .later }
def TopQuietCardSaid : Prop := Claim7.holds Tryz.pinned (.plain (OpenSpec.ofChange topQuietSpec)) topQuietCard

/-- THE SECOND FORM's CARD OF 'rentrolllaw.NatNil'. -/
def natNilUptoCard : Claim7 := { stood := { row := natNilUptoRow, standIns := [], harness := (true, "f229922ab263b5ad4a7664cca405075e8d7e254a52807af5b8c50e9466044369"), looks := false }, kinds := [], alts := [], laidByText := true, laidKinds := [.data], laidTests := true, laidLooks := .later }
def NatNilUptoCardSaid : Prop := Claim7.holds Tryz.pinned (.plain (OpenSpec.upto natNilSpec)) natNilUptoCard

/-- THE SECOND FORM's CARD OF 'rentrolllaw.NatRuns'. -/
def natRunsUptoCard : Claim7 := { stood := { row := natRunsUptoRow, standIns := [], harness := (true, "f229922ab263b5ad4a7664cca405075e8d7e254a52807af5b8c50e9466044369"), looks := false }, kinds := [], alts := [], laidByText := true, laidKinds := [.data], laidTests := true, laidLooks := .later }
def NatRunsUptoCardSaid : Prop := Claim7.holds Tryz.pinned (.plain (OpenSpec.upto natRunsSpec)) natRunsUptoCard

/-- THE SECOND FORM's CARD OF 'rentrolllaw.NatPlays'. -/
def natPlaysUptoCard : Claim7 := { stood := { row := natPlaysUptoRow, standIns := [], harness := (true, "f229922ab263b5ad4a7664cca405075e8d7e254a52807af5b8c50e9466044369"), looks := false }, kinds := [], alts := [], laidByText := true, laidKinds := [.data], laidTests := true, laidLooks := .later }
def NatPlaysUptoCardSaid : Prop := Claim7.holds Tryz.pinned (.plain (OpenSpec.upto natPlaysSpec)) natPlaysUptoCard

/-- THE SECOND FORM's CARD OF 'rentrolltop.TopBack'. -/
def topBackUptoCard : Claim7 := { stood := { row := topBackUptoRow, standIns := [], harness := (true, "f229922ab263b5ad4a7664cca405075e8d7e254a52807af5b8c50e9466044369"), looks := false }, kinds := [], alts := [], laidByText := true, laidKinds := [.data], laidTests := true, laidLooks := .later }
def TopBackUptoCardSaid : Prop := Claim7.holds Tryz.pinned (.plain (OpenSpec.upto topBackSpec)) topBackUptoCard

/-- THE SECOND FORM's CARD OF 'rentrolltop.TopRate'. -/
def topRateUptoCard : Claim7 := { stood := { row := topRateUptoRow, standIns := [], harness := (true, "f229922ab263b5ad4a7664cca405075e8d7e254a52807af5b8c50e9466044369"), looks := false }, kinds := [], alts := [], laidByText := true, laidKinds := [.data], laidTests := true, laidLooks := .later }
def TopRateUptoCardSaid : Prop := Claim7.holds Tryz.pinned (.plain (OpenSpec.upto topRateSpec)) topRateUptoCard

/-- THE SECOND FORM's CARD OF 'rentrolltop.TopSums'. -/
def topSumsUptoCard : Claim7 := { stood := { row := topSumsUptoRow, standIns := [], harness := (true, "f229922ab263b5ad4a7664cca405075e8d7e254a52807af5b8c50e9466044369"), looks := false }, kinds := [], alts := [], laidByText := true, laidKinds := [.data], laidTests := true, laidLooks := .later }
def TopSumsUptoCardSaid : Prop := Claim7.holds Tryz.pinned (.plain (OpenSpec.upto topSumsSpec)) topSumsUptoCard

/-- THE SECOND FORM's CARD OF 'rentrolltop.TopOut'. -/
def topOutUptoCard : Claim7 := { stood := { row := topOutUptoRow, standIns := [], harness := (true, "f229922ab263b5ad4a7664cca405075e8d7e254a52807af5b8c50e9466044369"), looks := false }, kinds := [], alts := [], laidByText := true, laidKinds := [.data], laidTests := true, laidLooks := .later }
def TopOutUptoCardSaid : Prop := Claim7.holds Tryz.pinned (.plain (OpenSpec.upto topOutSpec)) topOutUptoCard

/-- THE SECOND FORM's CARD OF 'rentrolltop.TopIn'. -/
def topInUptoCard : Claim7 := { stood := { row := topInUptoRow, standIns := [], harness := (true, "f229922ab263b5ad4a7664cca405075e8d7e254a52807af5b8c50e9466044369"), looks := false }, kinds := [], alts := [], laidByText := true, laidKinds := [.data], laidTests := true, laidLooks := .later }
def TopInUptoCardSaid : Prop := Claim7.holds Tryz.pinned (.plain (OpenSpec.upto topInSpec)) topInUptoCard

/-- THE SECOND FORM's CARD OF 'rentrolltop.TopStrangers'. -/
def topStrangersUptoCard : Claim7 := { stood := { row := topStrangersUptoRow, standIns := [], harness := (true, "f229922ab263b5ad4a7664cca405075e8d7e254a52807af5b8c50e9466044369"), looks := false }, kinds := [], alts := [], laidByText := true, laidKinds := [.data], laidTests := true, laidLooks := .later }
def TopStrangersUptoCardSaid : Prop := Claim7.holds Tryz.pinned (.plain (OpenSpec.upto topStrangersSpec)) topStrangersUptoCard

/-- THE SECOND FORM's CARD OF 'rentrolltop.TopMemory'. -/
def topMemoryUptoCard : Claim7 := { stood := { row := topMemoryUptoRow, standIns := [], harness := (true, "f229922ab263b5ad4a7664cca405075e8d7e254a52807af5b8c50e9466044369"), looks := false }, kinds := [], alts := [], laidByText := true, laidKinds := [.data], laidTests := true, laidLooks := .later }
def TopMemoryUptoCardSaid : Prop := Claim7.holds Tryz.pinned (.plain (OpenSpec.upto topMemorySpec)) topMemoryUptoCard

/-- THE SECOND FORM's CARD OF 'rentrolltop.TopEnds'. -/
def topEndsUptoCard : Claim7 := { stood := { row := topEndsUptoRow, standIns := [], harness := (true, "f229922ab263b5ad4a7664cca405075e8d7e254a52807af5b8c50e9466044369"), looks := false }, kinds := [], alts := [], laidByText := true, laidKinds := [.data], laidTests := true, laidLooks := .later }
def TopEndsUptoCardSaid : Prop := Claim7.holds Tryz.pinned (.plain (OpenSpec.upto topEndsSpec)) topEndsUptoCard

/-- THE SECOND FORM's CARD OF 'rentrolltop.TopDrained'. -/
def topDrainedUptoCard : Claim7 := { stood := { row := topDrainedUptoRow, standIns := [], harness := (true, "f229922ab263b5ad4a7664cca405075e8d7e254a52807af5b8c50e9466044369"), looks := false }, kinds := [], alts := [], laidByText := true, laidKinds := [.data], laidTests := true, laidLooks := .later }
def TopDrainedUptoCardSaid : Prop := Claim7.holds Tryz.pinned (.plain (OpenSpec.upto topDrainedSpec)) topDrainedUptoCard

/-- THE SECOND FORM's CARD OF 'rentrolltop.TopRuns'. -/
def topRunsUptoCard : Claim7 := { stood := { row := topRunsUptoRow, standIns := [], harness := (true, "f229922ab263b5ad4a7664cca405075e8d7e254a52807af5b8c50e9466044369"), looks := false }, kinds := [], alts := [], laidByText := true, laidKinds := [.data], laidTests := true, laidLooks := .later }
def TopRunsUptoCardSaid : Prop := Claim7.holds Tryz.pinned (.plain (OpenSpec.upto topRunsSpec)) topRunsUptoCard

/-- THE SECOND FORM's CARD OF 'rentrolltop.TopGood'. -/
def topGoodUptoCard : Claim7 := { stood := { row := topGoodUptoRow, standIns := [], harness := (true, "f229922ab263b5ad4a7664cca405075e8d7e254a52807af5b8c50e9466044369"), looks := false }, kinds := [], alts := [], laidByText := true, laidKinds := [.data], laidTests := true, laidLooks := .later }
def TopGoodUptoCardSaid : Prop := Claim7.holds Tryz.pinned (.plain (OpenSpec.upto topGoodSpec)) topGoodUptoCard

/-- THE SECOND FORM's CARD OF 'rentrolltop.TopRefused'. -/
def topRefusedUptoCard : Claim7 := { stood := { row := topRefusedUptoRow, standIns := [], harness := (true, "f229922ab263b5ad4a7664cca405075e8d7e254a52807af5b8c50e9466044369"), looks := false }, kinds := [], alts := [], laidByText := true, laidKinds := [.data], laidTests := true, laidLooks := .later }
def TopRefusedUptoCardSaid : Prop := Claim7.holds Tryz.pinned (.plain (OpenSpec.upto topRefusedSpec)) topRefusedUptoCard

/-- THE SECOND FORM's CARD OF 'rentrolltop.TopTraced'. -/
def topTracedUptoCard : Claim7 := { stood := { row := topTracedUptoRow, standIns := [], harness := (true, "f229922ab263b5ad4a7664cca405075e8d7e254a52807af5b8c50e9466044369"), looks := false }, kinds := [], alts := [], laidByText := true, laidKinds := [.data], laidTests := true, laidLooks := .later }
def TopTracedUptoCardSaid : Prop := Claim7.holds Tryz.pinned (.plain (OpenSpec.upto topTracedSpec)) topTracedUptoCard

/-- THE SECOND FORM's CARD OF 'rentrolltop.TopQuiet'. -/
def topQuietUptoCard : Claim7 := { stood := { row := topQuietUptoRow, standIns := [], harness := (true, "f229922ab263b5ad4a7664cca405075e8d7e254a52807af5b8c50e9466044369"), looks := false }, kinds := [], alts := [], laidByText := true, laidKinds := [.data], laidTests := true, laidLooks := .later }
def TopQuietUptoCardSaid : Prop := Claim7.holds Tryz.pinned (.plain (OpenSpec.upto topQuietSpec)) topQuietUptoCard
end Rows
end Go.Proofs.YtogckmommodmhaaGreatDoor
