/-
  DERIVED. GIVEN WITH THE SEED: THE CARDS: each row of YtcihbnpckicljaaGreatDoorRows.lean that lists a variable, with what it lists TIED to the program's text (the seventh form; the later family's looks); each row that meets fmt, with fmt's text TOLD by the authors' own Lean function (tested against real Go, not proved from fmt's source: count such statements apart). THE CARD IS WHAT COUNTS. Prove the row's statement (the work); the ties are given (YtcihbnpckicljaaGreatDoorTie.lean); close each card by the builder's one call (the guide's Derived/Test/ToyasCard.lean, 'card_holds'). Laid BY PROGRAM, IN A SANDBOX (cutbox-door.mjs). By AI agents, Wed Nov 11 2026. No macro, syntax, notation, axiom, sorry.
-/
import Derived.Test.YtcihbnpckicljaaGreatDoorRows
import GoSem.ClaimSeven
namespace Go.Proofs.YtcihbnpckicljaaGreatDoor
namespace Rows

/-- THE TIED CARD OF 'codicillaw06.JournalReads'. -/
def journalReadsCard : Claim7 := { stood := { row := journalReadsRow, standIns := [], harness := (true, "970bfbea02a7eeb358ae83d0cf5d718b52e08e998e00bb17d8e01b09e925d1e0"), looks := true }, kinds := [], alts := [], laidByText := true, laidKinds := [.data, .data, .data, .data, .sentinel, .sentinel, .data, .pinned], laidTests := true, laidLooks := .later }
def JournalReadsCardSaid : Prop := Claim7.holds Tryz.pinned (.plain (OpenSpec.ofChange journalReadsSpec)) journalReadsCard

/-- THE TIED CARD OF 'codicillaw06.JournalTorn'. -/
def journalTornCard : Claim7 := { stood := { row := journalTornRow, standIns := [], harness := (true, "970bfbea02a7eeb358ae83d0cf5d718b52e08e998e00bb17d8e01b09e925d1e0"), looks := true }, kinds := [], alts := [], laidByText := true, laidKinds := [.data, .data, .data, .data, .sentinel, .sentinel, .data, .pinned], laidTests := true, laidLooks := .later }
def JournalTornCardSaid : Prop := Claim7.holds Tryz.pinned (.plain (OpenSpec.ofChange journalTornSpec)) journalTornCard

/-- THE TIED CARD OF 'codicillaw06.JournalChained'. -/
def journalChainedCard : Claim7 := { stood := { row := journalChainedRow, standIns := [], harness := (true, "970bfbea02a7eeb358ae83d0cf5d718b52e08e998e00bb17d8e01b09e925d1e0"), looks := true }, kinds := [], alts := [], laidByText := true, laidKinds := [.data, .data, .data, .data, .sentinel, .sentinel, .data, .pinned], laidTests := true, laidLooks := .later }
def JournalChainedCardSaid : Prop := Claim7.holds Tryz.pinned (.plain (OpenSpec.ofChange journalChainedSpec)) journalChainedCard

/-- THE TIED CARD OF 'codicillaw06.JournalHeads'. -/
def journalHeadsCard : Claim7 := { stood := { row := journalHeadsRow, standIns := [], harness := (true, "970bfbea02a7eeb358ae83d0cf5d718b52e08e998e00bb17d8e01b09e925d1e0"), looks := true }, kinds := [], alts := [], laidByText := true, laidKinds := [.data, .data, .data, .data, .sentinel, .sentinel, .data, .pinned], laidTests := true, laidLooks := .later }
def JournalHeadsCardSaid : Prop := Claim7.holds Tryz.pinned (.plain (OpenSpec.ofChange journalHeadsSpec)) journalHeadsCard

/-- THE TIED CARD OF 'codicillaw06.JournalOwn'. -/
def journalOwnCard : Claim7 := { stood := { row := journalOwnRow, standIns := [], harness := (true, "970bfbea02a7eeb358ae83d0cf5d718b52e08e998e00bb17d8e01b09e925d1e0"), looks := true }, kinds := [], alts := [], laidByText := true, laidKinds := [.data, .data, .data, .data, .sentinel, .sentinel, .data, .pinned], laidTests := true, laidLooks := .later }
def JournalOwnCardSaid : Prop := Claim7.holds Tryz.pinned (.plain (OpenSpec.ofChange journalOwnSpec)) journalOwnCard

/-- THE TIED CARD OF 'codicillaw06.JournalBlocks'. -/
def journalBlocksCard : Claim7 := { stood := { row := journalBlocksRow, standIns := [], harness := (true, "970bfbea02a7eeb358ae83d0cf5d718b52e08e998e00bb17d8e01b09e925d1e0"), looks := true }, kinds := [], alts := [], laidByText := true, laidKinds := [.data, .data, .data, .data, .sentinel, .sentinel, .data, .pinned], laidTests := true, laidLooks := .later }
def JournalBlocksCardSaid : Prop := Claim7.holds Tryz.pinned (.plain (OpenSpec.ofChange journalBlocksSpec)) journalBlocksCard

/-- THE TIED CARD OF 'codicillaw06.JournalBack'. -/
def journalBackCard : Claim7 := { stood := { row := journalBackRow, standIns := [], harness := (true, "970bfbea02a7eeb358ae83d0cf5d718b52e08e998e00bb17d8e01b09e925d1e0"), looks := true }, kinds := [], alts := [], laidByText := true, laidKinds := [.data, .data, .data, .data, .sentinel, .sentinel, .data, .pinned], laidTests := true, laidLooks := .later }
def JournalBackCardSaid : Prop := Claim7.holds Tryz.pinned (.plain (OpenSpec.ofChange journalBackSpec)) journalBackCard

/-- THE SECOND FORM's CARD OF 'codicillaw06.JournalReads'. -/
def journalReadsUptoCard : Claim7 := { stood := { row := journalReadsUptoRow, standIns := [], harness := (true, "970bfbea02a7eeb358ae83d0cf5d718b52e08e998e00bb17d8e01b09e925d1e0"), looks := true }, kinds := [], alts := [], laidByText := true, laidKinds := [.data, .data, .data, .data, .sentinel, .sentinel, .data, .pinned], laidTests := true, laidLooks := .later }
def JournalReadsUptoCardSaid : Prop := Claim7.holds Tryz.pinned (.plain (OpenSpec.upto journalReadsSpec)) journalReadsUptoCard

/-- THE SECOND FORM's CARD OF 'codicillaw06.JournalTorn'. -/
def journalTornUptoCard : Claim7 := { stood := { row := journalTornUptoRow, standIns := [], harness := (true, "970bfbea02a7eeb358ae83d0cf5d718b52e08e998e00bb17d8e01b09e925d1e0"), looks := true }, kinds := [], alts := [], laidByText := true, laidKinds := [.data, .data, .data, .data, .sentinel, .sentinel, .data, .pinned], laidTests := true, laidLooks := .later }
def JournalTornUptoCardSaid : Prop := Claim7.holds Tryz.pinned (.plain (OpenSpec.upto journalTornSpec)) journalTornUptoCard

/-- THE SECOND FORM's CARD OF 'codicillaw06.JournalChained'. -/
def journalChainedUptoCard : Claim7 := { stood := { row := journalChainedUptoRow, standIns := [], harness := (true, "970bfbea02a7eeb358ae83d0cf5d718b52e08e998e00bb17d8e01b09e925d1e0"), looks := true }, kinds := [], alts := [], laidByText := true, laidKinds := [.data, .data, .data, .data, .sentinel, .sentinel, .data, .pinned], laidTests := true, laidLooks := .later }
def JournalChainedUptoCardSaid : Prop := Claim7.holds Tryz.pinned (.plain (OpenSpec.upto journalChainedSpec)) journalChainedUptoCard

/-- THE SECOND FORM's CARD OF 'codicillaw06.JournalHeads'. -/
def journalHeadsUptoCard : Claim7 := { stood := { row := journalHeadsUptoRow, standIns := [], harness := (true, "970bfbea02a7eeb358ae83d0cf5d718b52e08e998e00bb17d8e01b09e925d1e0"), looks := true }, kinds := [], alts := [], laidByText := true, laidKinds := [.data, .data, .data, .data, .sentinel, .sentinel, .data, .pinned], laidTests := true, laidLooks := .later }
def JournalHeadsUptoCardSaid : Prop := Claim7.holds Tryz.pinned (.plain (OpenSpec.upto journalHeadsSpec)) journalHeadsUptoCard

/-- THE SECOND FORM's CARD OF 'codicillaw06.JournalOwn'. -/
def journalOwnUptoCard : Claim7 := { stood := { row := journalOwnUptoRow, standIns := [], harness := (true, "970bfbea02a7eeb358ae83d0cf5d718b52e08e998e00bb17d8e01b09e925d1e0"), looks := true }, kinds := [], alts := [], laidByText := true, laidKinds := [.data, .data, .data, .data, .sentinel, .sentinel, .data, .pinned], laidTests := true, laidLooks := .later }
def JournalOwnUptoCardSaid : Prop := Claim7.holds Tryz.pinned (.plain (OpenSpec.upto journalOwnSpec)) journalOwnUptoCard

/-- THE SECOND FORM's CARD OF 'codicillaw06.JournalBlocks'. -/
def journalBlocksUptoCard : Claim7 := { stood := { row := journalBlocksUptoRow, standIns := [], harness := (true, "970bfbea02a7eeb358ae83d0cf5d718b52e08e998e00bb17d8e01b09e925d1e0"), looks := true }, kinds := [], alts := [], laidByText := true, laidKinds := [.data, .data, .data, .data, .sentinel, .sentinel, .data, .pinned], laidTests := true, laidLooks := .later }
def JournalBlocksUptoCardSaid : Prop := Claim7.holds Tryz.pinned (.plain (OpenSpec.upto journalBlocksSpec)) journalBlocksUptoCard

/-- THE SECOND FORM's CARD OF 'codicillaw06.JournalBack'. -/
def journalBackUptoCard : Claim7 := { stood := { row := journalBackUptoRow, standIns := [], harness := (true, "970bfbea02a7eeb358ae83d0cf5d718b52e08e998e00bb17d8e01b09e925d1e0"), looks := true }, kinds := [], alts := [], laidByText := true, laidKinds := [.data, .data, .data, .data, .sentinel, .sentinel, .data, .pinned], laidTests := true, laidLooks := .later }
def JournalBackUptoCardSaid : Prop := Claim7.holds Tryz.pinned (.plain (OpenSpec.upto journalBackSpec)) journalBackUptoCard
end Rows
end Go.Proofs.YtcihbnpckicljaaGreatDoor
