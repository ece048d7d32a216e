/-
  DERIVED. GIVEN WITH THE SEED: THE CARDS: each row of YtghkeilgdmnnlaaDoorRows.lean that lists a variable, with what it lists TIED to the program's text (the seventh form; the later family's looks); each row that meets fmt, with fmt's text TOLD by the authors' own Lean function (tested against real Go, not proved from fmt's source: count such statements apart). THE CARD IS WHAT COUNTS. Prove the row's statement (the work); the ties are given (YtghkeilgdmnnlaaDoorTie.lean); close each card by the builder's one call (the guide's Derived/Test/ToyasCard.lean, 'card_holds'). Laid BY PROGRAM, IN A SANDBOX (cutbox-door.mjs). By AI agents, Wed Nov 11 2026. No macro, syntax, notation, axiom, sorry.
-/
import Derived.Test.YtghkeilgdmnnlaaDoorRows
import GoSem.ClaimSeven
namespace Go.Proofs.YtghkeilgdmnnlaaDoor
namespace Rows

/-- THE TIED CARD OF 'codicillaw03.BinTexts'. -/
def binTextsCard : Claim7 := { stood := { row := binTextsRow, standIns := [], harness := (true, "0208ecbd9aeb49f590bc1633442a65bf36d29eb3e4a6dc035970f38f63b869f9"), looks := false }, kinds := [], alts := [], laidByText := true, laidKinds := [.data, .pinned], laidTests := true, laidLooks := .later }
def BinTextsCardSaid : Prop := Claim7.holds Tryd.pinned (.plain (OpenSpec.ofChange binTextsSpec)) binTextsCard

/-- THE TIED CARD OF 'codicillaw03.BinNumbers'. -/
def binNumbersCard : Claim7 := { stood := { row := binNumbersRow, standIns := [], harness := (true, "0208ecbd9aeb49f590bc1633442a65bf36d29eb3e4a6dc035970f38f63b869f9"), looks := false }, kinds := [], alts := [], laidByText := true, laidKinds := [.data, .pinned], laidTests := true, laidLooks := .later }
def BinNumbersCardSaid : Prop := Claim7.holds Tryd.pinned (.plain (OpenSpec.ofChange binNumbersSpec)) binNumbersCard

/-- THE TIED CARD OF 'codicillaw03.BinBack'. -/
def binBackCard : Claim7 := { stood := { row := binBackRow, standIns := [], harness := (true, "0208ecbd9aeb49f590bc1633442a65bf36d29eb3e4a6dc035970f38f63b869f9"), looks := false }, kinds := [], alts := [], laidByText := true, laidKinds := [.data, .pinned], laidTests := true, laidLooks := .later }
def BinBackCardSaid : Prop := Claim7.holds Tryd.pinned (.plain (OpenSpec.ofChange binBackSpec)) binBackCard

/-- THE TIED CARD OF 'codicillaw03.BinLists'. -/
def binListsCard : Claim7 := { stood := { row := binListsRow, standIns := [], harness := (true, "0208ecbd9aeb49f590bc1633442a65bf36d29eb3e4a6dc035970f38f63b869f9"), looks := false }, kinds := [], alts := [], laidByText := true, laidKinds := [.data, .pinned], laidTests := true, laidLooks := .later }
def BinListsCardSaid : Prop := Claim7.holds Tryd.pinned (.plain (OpenSpec.ofChange binListsSpec)) binListsCard

/-- THE TIED CARD OF 'codicillaw03.BinOrder'. -/
def binOrderCard : Claim7 := { stood := { row := binOrderRow, standIns := [], harness := (true, "0208ecbd9aeb49f590bc1633442a65bf36d29eb3e4a6dc035970f38f63b869f9"), looks := false }, kinds := [], alts := [], laidByText := true, laidKinds := [.data, .pinned], laidTests := true, laidLooks := .later }
def BinOrderCardSaid : Prop := Claim7.holds Tryd.pinned (.plain (OpenSpec.ofChange binOrderSpec)) binOrderCard

/-- THE TIED CARD OF 'codicillaw03.BinSizes'. -/
def binSizesCard : Claim7 := { stood := { row := binSizesRow, standIns := [], harness := (true, "0208ecbd9aeb49f590bc1633442a65bf36d29eb3e4a6dc035970f38f63b869f9"), looks := false }, kinds := [], alts := [], laidByText := true, laidKinds := [.data, .pinned], laidTests := true, laidLooks := .later }
def BinSizesCardSaid : Prop := Claim7.holds Tryd.pinned (.plain (OpenSpec.ofChange binSizesSpec)) binSizesCard

/-- THE TIED CARD OF 'codicillaw03.BinAlike'. -/
def binAlikeCard : Claim7 := { stood := { row := binAlikeRow, standIns := [], harness := (true, "0208ecbd9aeb49f590bc1633442a65bf36d29eb3e4a6dc035970f38f63b869f9"), looks := false }, kinds := [], alts := [], laidByText := true, laidKinds := [.data, .pinned], laidTests := true, laidLooks := .later }
def BinAlikeCardSaid : Prop := Claim7.holds Tryd.pinned (.plain (OpenSpec.ofChange binAlikeSpec)) binAlikeCard

/-- THE SECOND FORM's CARD OF 'codicillaw03.BinTexts'. -/
def binTextsUptoCard : Claim7 := { stood := { row := binTextsUptoRow, standIns := [], harness := (true, "0208ecbd9aeb49f590bc1633442a65bf36d29eb3e4a6dc035970f38f63b869f9"), looks := false }, kinds := [], alts := [], laidByText := true, laidKinds := [.data, .pinned], laidTests := true, laidLooks := .later }
def BinTextsUptoCardSaid : Prop := Claim7.holds Tryd.pinned (.plain (OpenSpec.upto binTextsSpec)) binTextsUptoCard

/-- THE SECOND FORM's CARD OF 'codicillaw03.BinNumbers'. -/
def binNumbersUptoCard : Claim7 := { stood := { row := binNumbersUptoRow, standIns := [], harness := (true, "0208ecbd9aeb49f590bc1633442a65bf36d29eb3e4a6dc035970f38f63b869f9"), looks := false }, kinds := [], alts := [], laidByText := true, laidKinds := [.data, .pinned], laidTests := true, laidLooks := .later }
def BinNumbersUptoCardSaid : Prop := Claim7.holds Tryd.pinned (.plain (OpenSpec.upto binNumbersSpec)) binNumbersUptoCard

/-- THE SECOND FORM's CARD OF 'codicillaw03.BinBack'. -/
def binBackUptoCard : Claim7 := { stood := { row := binBackUptoRow, standIns := [], harness := (true, "0208ecbd9aeb49f590bc1633442a65bf36d29eb3e4a6dc035970f38f63b869f9"), looks := false }, kinds := [], alts := [], laidByText := true, laidKinds := [.data, .pinned], laidTests := true, laidLooks := .later }
def BinBackUptoCardSaid : Prop := Claim7.holds Tryd.pinned (.plain (OpenSpec.upto binBackSpec)) binBackUptoCard

/-- THE SECOND FORM's CARD OF 'codicillaw03.BinLists'. -/
def binListsUptoCard : Claim7 := { stood := { row := binListsUptoRow, standIns := [], harness := (true, "0208ecbd9aeb49f590bc1633442a65bf36d29eb3e4a6dc035970f38f63b869f9"), looks := false }, kinds := [], alts := [], laidByText := true, laidKinds := [.data, .pinned], laidTests := true, laidLooks := .later }
def BinListsUptoCardSaid : Prop := Claim7.holds Tryd.pinned (.plain (OpenSpec.upto binListsSpec)) binListsUptoCard

/-- THE SECOND FORM's CARD OF 'codicillaw03.BinOrder'. -/
def binOrderUptoCard : Claim7 := { stood := { row := binOrderUptoRow, standIns := [], harness := (true, "0208ecbd9aeb49f590bc1633442a65bf36d29eb3e4a6dc035970f38f63b869f9"), looks := false }, kinds := [], alts := [], laidByText := true, laidKinds := [.data, .pinned], laidTests := true, laidLooks := .later }
def BinOrderUptoCardSaid : Prop := Claim7.holds Tryd.pinned (.plain (OpenSpec.upto binOrderSpec)) binOrderUptoCard

/-- THE SECOND FORM's CARD OF 'codicillaw03.BinSizes'. -/
def binSizesUptoCard : Claim7 := { stood := { row := binSizesUptoRow, standIns := [], harness := (true, "0208ecbd9aeb49f590bc1633442a65bf36d29eb3e4a6dc035970f38f63b869f9"), looks := false }, kinds := [], alts := [], laidByText := true, laidKinds := [.data, .pinned], laidTests := true, laidLooks := .later }
def BinSizesUptoCardSaid : Prop := Claim7.holds Tryd.pinned (.plain (OpenSpec.upto binSizesSpec)) binSizesUptoCard

/-- THE SECOND FORM's CARD OF 'codicillaw03.BinAlike'. -/
def binAlikeUptoCard : Claim7 := { stood := { row := binAlikeUptoRow, standIns := [], harness := (true, "0208ecbd9aeb49f590bc1633442a65bf36d29eb3e4a6dc035970f38f63b869f9"), looks := false }, kinds := [], alts := [], laidByText := true, laidKinds := [.data, .pinned], laidTests := true, laidLooks := .later }
def BinAlikeUptoCardSaid : Prop := Claim7.holds Tryd.pinned (.plain (OpenSpec.upto binAlikeSpec)) binAlikeUptoCard
end Rows
end Go.Proofs.YtghkeilgdmnnlaaDoor
