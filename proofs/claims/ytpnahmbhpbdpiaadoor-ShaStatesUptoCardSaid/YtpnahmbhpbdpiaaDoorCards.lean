/-
  DERIVED. GIVEN WITH THE SEED: THE CARDS: each row of YtpnahmbhpbdpiaaDoorRows.lean that lists a variable, with what it lists TIED to the program's text (the seventh form; the later family's looks); each row that meets fmt, with fmt's text TOLD by the authors' own Lean function (tested against real Go, not proved from fmt's source: count such statements apart). THE CARD IS WHAT COUNTS. Prove the row's statement (the work); the ties are given (YtpnahmbhpbdpiaaDoorTie.lean); close each card by the builder's one call (the guide's Derived/Test/ToyasCard.lean, 'card_holds'). Laid BY PROGRAM, IN A SANDBOX (cutbox-door.mjs). By AI agents, Wed Nov 11 2026. No macro, syntax, notation, axiom, sorry.
-/
import Derived.Test.YtpnahmbhpbdpiaaDoorRows
import GoSem.ClaimSeven
namespace Go.Proofs.YtpnahmbhpbdpiaaDoor
namespace Rows

/-- THE TIED CARD OF 'codicillaw01.ShaSums'. -/
def shaSumsCard : Claim7 := { stood := { row := shaSumsRow, standIns := [], harness := (true, "f49ab94d16fa04fef3fd1a6f102a5ee2af0587b91460d421c197397d0e4f36da"), looks := false }, kinds := [], alts := [], laidByText := true, laidKinds := [.data], laidTests := true, laidLooks := .later }
def ShaSumsCardSaid : Prop := Claim7.holds Tryd.pinned (.plain (OpenSpec.ofChange shaSumsSpec)) shaSumsCard

/-- THE TIED CARD OF 'codicillaw01.ShaStates'. -/
def shaStatesCard : Claim7 := { stood := { row := shaStatesRow, standIns := [], harness := (true, "f49ab94d16fa04fef3fd1a6f102a5ee2af0587b91460d421c197397d0e4f36da"), looks := false }, kinds := [], alts := [], laidByText := true, laidKinds := [.data], laidTests := true, laidLooks := .later }
def ShaStatesCardSaid : Prop := Claim7.holds Tryd.pinned (.plain (OpenSpec.ofChange shaStatesSpec)) shaStatesCard

/-- THE TIED CARD OF 'codicillaw01.ShaPieces'. -/
def shaPiecesCard : Claim7 := { stood := { row := shaPiecesRow, standIns := [], harness := (true, "f49ab94d16fa04fef3fd1a6f102a5ee2af0587b91460d421c197397d0e4f36da"), looks := false }, kinds := [], alts := [], laidByText := true, laidKinds := [.data], laidTests := true, laidLooks := .later }
def ShaPiecesCardSaid : Prop := Claim7.holds Tryd.pinned (.plain (OpenSpec.ofChange shaPiecesSpec)) shaPiecesCard

/-- THE TIED CARD OF 'codicillaw01.ShaTurns'. -/
def shaTurnsCard : Claim7 := { stood := { row := shaTurnsRow, standIns := [], harness := (true, "f49ab94d16fa04fef3fd1a6f102a5ee2af0587b91460d421c197397d0e4f36da"), looks := false }, kinds := [], alts := [], laidByText := true, laidKinds := [.data], laidTests := true, laidLooks := .later }
def ShaTurnsCardSaid : Prop := Claim7.holds Tryd.pinned (.plain (OpenSpec.ofChange shaTurnsSpec)) shaTurnsCard

/-- THE TIED CARD OF 'codicillaw01.ShaGrows'. -/
def shaGrowsCard : Claim7 := { stood := { row := shaGrowsRow, standIns := [], harness := (true, "f49ab94d16fa04fef3fd1a6f102a5ee2af0587b91460d421c197397d0e4f36da"), looks := false }, kinds := [], alts := [], laidByText := true, laidKinds := [.data], laidTests := true, laidLooks := .later }
def ShaGrowsCardSaid : Prop := Claim7.holds Tryd.pinned (.plain (OpenSpec.ofChange shaGrowsSpec)) shaGrowsCard

/-- THE SECOND FORM's CARD OF 'codicillaw01.ShaSums'. -/
def shaSumsUptoCard : Claim7 := { stood := { row := shaSumsUptoRow, standIns := [], harness := (true, "f49ab94d16fa04fef3fd1a6f102a5ee2af0587b91460d421c197397d0e4f36da"), looks := false }, kinds := [], alts := [], laidByText := true, laidKinds := [.data], laidTests := true, laidLooks := .later }
def ShaSumsUptoCardSaid : Prop := Claim7.holds Tryd.pinned (.plain (OpenSpec.upto shaSumsSpec)) shaSumsUptoCard

/-- THE SECOND FORM's CARD OF 'codicillaw01.ShaStates'. -/
def shaStatesUptoCard : Claim7 := { stood := { row := shaStatesUptoRow, standIns := [], harness := (true, "f49ab94d16fa04fef3fd1a6f102a5ee2af0587b91460d421c197397d0e4f36da"), looks := false }, kinds := [], alts := [], laidByText := true, laidKinds := [.data], laidTests := true, laidLooks := .later }
def ShaStatesUptoCardSaid : Prop := Claim7.holds Tryd.pinned (.plain (OpenSpec.upto shaStatesSpec)) shaStatesUptoCard

/-- THE SECOND FORM's CARD OF 'codicillaw01.ShaPieces'. -/
def shaPiecesUptoCard : Claim7 := { stood := { row := shaPiecesUptoRow, standIns := [], harness := (true, "f49ab94d16fa04fef3fd1a6f102a5ee2af0587b91460d421c197397d0e4f36da"), looks := false }, kinds := [], alts := [], laidByText := true, laidKinds := [.data], laidTests := true, laidLooks := .later }
def ShaPiecesUptoCardSaid : Prop := Claim7.holds Tryd.pinned (.plain (OpenSpec.upto shaPiecesSpec)) shaPiecesUptoCard

/-- THE SECOND FORM's CARD OF 'codicillaw01.ShaTurns'. -/
def shaTurnsUptoCard : Claim7 := { stood := { row := shaTurnsUptoRow, standIns := [], harness := (true, "f49ab94d16fa04fef3fd1a6f102a5ee2af0587b91460d421c197397d0e4f36da"), looks := false }, kinds := [], alts := [], laidByText := true, laidKinds := [.data], laidTests := true, laidLooks := .later }
def ShaTurnsUptoCardSaid : Prop := Claim7.holds Tryd.pinned (.plain (OpenSpec.upto shaTurnsSpec)) shaTurnsUptoCard

/-- THE SECOND FORM's CARD OF 'codicillaw01.ShaGrows'. -/
def shaGrowsUptoCard : Claim7 := { stood := { row := shaGrowsUptoRow, standIns := [], harness := (true, "f49ab94d16fa04fef3fd1a6f102a5ee2af0587b91460d421c197397d0e4f36da"), looks := false }, kinds := [], alts := [], laidByText := true, laidKinds := [.data], laidTests := true, laidLooks := .later }
def ShaGrowsUptoCardSaid : Prop := Claim7.holds Tryd.pinned (.plain (OpenSpec.upto shaGrowsSpec)) shaGrowsUptoCard
end Rows
end Go.Proofs.YtpnahmbhpbdpiaaDoor
