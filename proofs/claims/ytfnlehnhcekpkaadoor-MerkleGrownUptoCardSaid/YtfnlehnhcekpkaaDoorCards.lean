/-
  DERIVED. GIVEN WITH THE SEED: THE CARDS: each row of YtfnlehnhcekpkaaDoorRows.lean that lists a variable, with what it lists TIED to the program's text (the seventh form; the later family's looks); each row that meets fmt, with fmt's text TOLD by the authors' own Lean function (tested against real Go, not proved from fmt's source: count such statements apart). THE CARD IS WHAT COUNTS. Prove the row's statement (the work); the ties are given (YtfnlehnhcekpkaaDoorTie.lean); close each card by the builder's one call (the guide's Derived/Test/ToyasCard.lean, 'card_holds'). Laid BY PROGRAM, IN A SANDBOX (cutbox-door.mjs). By AI agents, Wed Nov 11 2026. No macro, syntax, notation, axiom, sorry.
-/
import Derived.Test.YtfnlehnhcekpkaaDoorRows
import GoSem.ClaimSeven
namespace Go.Proofs.YtfnlehnhcekpkaaDoor
namespace Rows

/-- THE TIED CARD OF 'codicillaw04.MerklePeaks'. -/
def merklePeaksCard : Claim7 := { stood := { row := merklePeaksRow, standIns := [], harness := (true, "ff61026eeedf91ca83574aa624bce8804c71f743984905847a0fe498e2f1575a"), looks := false }, kinds := [], alts := [], laidByText := true, laidKinds := [.data, .data, .data], laidTests := true, laidLooks := .later }
def MerklePeaksCardSaid : Prop := Claim7.holds Tryd.pinned (.plain (OpenSpec.ofChange merklePeaksSpec)) merklePeaksCard

/-- THE TIED CARD OF 'codicillaw04.MerkleAdds'. -/
def merkleAddsCard : Claim7 := { stood := { row := merkleAddsRow, standIns := [], harness := (true, "ff61026eeedf91ca83574aa624bce8804c71f743984905847a0fe498e2f1575a"), looks := false }, kinds := [], alts := [], laidByText := true, laidKinds := [.data, .data, .data], laidTests := true, laidLooks := .later }
def MerkleAddsCardSaid : Prop := Claim7.holds Tryd.pinned (.plain (OpenSpec.ofChange merkleAddsSpec)) merkleAddsCard

/-- THE TIED CARD OF 'codicillaw04.MerkleAsked'. -/
def merkleAskedCard : Claim7 := { stood := { row := merkleAskedRow, standIns := [], harness := (true, "ff61026eeedf91ca83574aa624bce8804c71f743984905847a0fe498e2f1575a"), looks := false }, kinds := [], alts := [], laidByText := true, laidKinds := [.data, .data, .data], laidTests := true, laidLooks := .later }
def MerkleAskedCardSaid : Prop := Claim7.holds Tryd.pinned (.plain (OpenSpec.ofChange merkleAskedSpec)) merkleAskedCard

/-- THE TIED CARD OF 'codicillaw04.MerkleShown'. -/
def merkleShownCard : Claim7 := { stood := { row := merkleShownRow, standIns := [], harness := (true, "ff61026eeedf91ca83574aa624bce8804c71f743984905847a0fe498e2f1575a"), looks := false }, kinds := [], alts := [], laidByText := true, laidKinds := [.data, .data, .data], laidTests := true, laidLooks := .later }
def MerkleShownCardSaid : Prop := Claim7.holds Tryd.pinned (.plain (OpenSpec.ofChange merkleShownSpec)) merkleShownCard

/-- THE TIED CARD OF 'codicillaw04.MerkleTrees'. -/
def merkleTreesCard : Claim7 := { stood := { row := merkleTreesRow, standIns := [], harness := (true, "ff61026eeedf91ca83574aa624bce8804c71f743984905847a0fe498e2f1575a"), looks := false }, kinds := [], alts := [], laidByText := true, laidKinds := [.data, .data, .data], laidTests := true, laidLooks := .later }
def MerkleTreesCardSaid : Prop := Claim7.holds Tryd.pinned (.plain (OpenSpec.ofChange merkleTreesSpec)) merkleTreesCard

/-- THE TIED CARD OF 'codicillaw04.MerkleNone'. -/
def merkleNoneCard : Claim7 := { stood := { row := merkleNoneRow, standIns := [], harness := (true, "ff61026eeedf91ca83574aa624bce8804c71f743984905847a0fe498e2f1575a"), looks := false }, kinds := [], alts := [], laidByText := true, laidKinds := [.data, .data, .data], laidTests := true, laidLooks := .later }
def MerkleNoneCardSaid : Prop := Claim7.holds Tryd.pinned (.plain (OpenSpec.ofChange merkleNoneSpec)) merkleNoneCard

/-- THE TIED CARD OF 'codicillaw04.MerkleGrown'. -/
def merkleGrownCard : Claim7 := { stood := { row := merkleGrownRow, standIns := [], harness := (true, "ff61026eeedf91ca83574aa624bce8804c71f743984905847a0fe498e2f1575a"), looks := false }, kinds := [], alts := [], laidByText := true, laidKinds := [.data, .data, .data], laidTests := true, laidLooks := .later }
def MerkleGrownCardSaid : Prop := Claim7.holds Tryd.pinned (.plain (OpenSpec.ofChange merkleGrownSpec)) merkleGrownCard

/-- THE TIED CARD OF 'codicillaw04.MerkleOne'. -/
def merkleOneCard : Claim7 := { stood := { row := merkleOneRow, standIns := [], harness := (true, "ff61026eeedf91ca83574aa624bce8804c71f743984905847a0fe498e2f1575a"), looks := false }, kinds := [], alts := [], laidByText := true, laidKinds := [.data, .data, .data], laidTests := true, laidLooks := .later }
def MerkleOneCardSaid : Prop := Claim7.holds Tryd.pinned (.plain (OpenSpec.ofChange merkleOneSpec)) merkleOneCard

/-- THE SECOND FORM's CARD OF 'codicillaw04.MerklePeaks'. -/
def merklePeaksUptoCard : Claim7 := { stood := { row := merklePeaksUptoRow, standIns := [], harness := (true, "ff61026eeedf91ca83574aa624bce8804c71f743984905847a0fe498e2f1575a"), looks := false }, kinds := [], alts := [], laidByText := true, laidKinds := [.data, .data, .data], laidTests := true, laidLooks := .later }
def MerklePeaksUptoCardSaid : Prop := Claim7.holds Tryd.pinned (.plain (OpenSpec.upto merklePeaksSpec)) merklePeaksUptoCard

/-- THE SECOND FORM's CARD OF 'codicillaw04.MerkleAdds'. -/
def merkleAddsUptoCard : Claim7 := { stood := { row := merkleAddsUptoRow, standIns := [], harness := (true, "ff61026eeedf91ca83574aa624bce8804c71f743984905847a0fe498e2f1575a"), looks := false }, kinds := [], alts := [], laidByText := true, laidKinds := [.data, .data, .data], laidTests := true, laidLooks := .later }
def MerkleAddsUptoCardSaid : Prop := Claim7.holds Tryd.pinned (.plain (OpenSpec.upto merkleAddsSpec)) merkleAddsUptoCard

/-- THE SECOND FORM's CARD OF 'codicillaw04.MerkleAsked'. -/
def merkleAskedUptoCard : Claim7 := { stood := { row := merkleAskedUptoRow, standIns := [], harness := (true, "ff61026eeedf91ca83574aa624bce8804c71f743984905847a0fe498e2f1575a"), looks := false }, kinds := [], alts := [], laidByText := true, laidKinds := [.data, .data, .data], laidTests := true, laidLooks := .later }
def MerkleAskedUptoCardSaid : Prop := Claim7.holds Tryd.pinned (.plain (OpenSpec.upto merkleAskedSpec)) merkleAskedUptoCard

/-- THE SECOND FORM's CARD OF 'codicillaw04.MerkleShown'. -/
def merkleShownUptoCard : Claim7 := { stood := { row := merkleShownUptoRow, standIns := [], harness := (true, "ff61026eeedf91ca83574aa624bce8804c71f743984905847a0fe498e2f1575a"), looks := false }, kinds := [], alts := [], laidByText := true, laidKinds := [.data, .data, .data], laidTests := true, laidLooks := .later }
def MerkleShownUptoCardSaid : Prop := Claim7.holds Tryd.pinned (.plain (OpenSpec.upto merkleShownSpec)) merkleShownUptoCard

/-- THE SECOND FORM's CARD OF 'codicillaw04.MerkleTrees'. -/
def merkleTreesUptoCard : Claim7 := { stood := { row := merkleTreesUptoRow, standIns := [], harness := (true, "ff61026eeedf91ca83574aa624bce8804c71f743984905847a0fe498e2f1575a"), looks := false }, kinds := [], alts := [], laidByText := true, laidKinds := [.data, .data, .data], laidTests := true, laidLooks := .later }
def MerkleTreesUptoCardSaid : Prop := Claim7.holds Tryd.pinned (.plain (OpenSpec.upto merkleTreesSpec)) merkleTreesUptoCard

/-- THE SECOND FORM's CARD OF 'codicillaw04.MerkleNone'. -/
def merkleNoneUptoCard : Claim7 := { stood := { row := merkleNoneUptoRow, standIns := [], harness := (true, "ff61026eeedf91ca83574aa624bce8804c71f743984905847a0fe498e2f1575a"), looks := false }, kinds := [], alts := [], laidByText := true, laidKinds := [.data, .data, .data], laidTests := true, laidLooks := .later }
def MerkleNoneUptoCardSaid : Prop := Claim7.holds Tryd.pinned (.plain (OpenSpec.upto merkleNoneSpec)) merkleNoneUptoCard

/-- THE SECOND FORM's CARD OF 'codicillaw04.MerkleGrown'. -/
def merkleGrownUptoCard : Claim7 := { stood := { row := merkleGrownUptoRow, standIns := [], harness := (true, "ff61026eeedf91ca83574aa624bce8804c71f743984905847a0fe498e2f1575a"), looks := false }, kinds := [], alts := [], laidByText := true, laidKinds := [.data, .data, .data], laidTests := true, laidLooks := .later }
def MerkleGrownUptoCardSaid : Prop := Claim7.holds Tryd.pinned (.plain (OpenSpec.upto merkleGrownSpec)) merkleGrownUptoCard

/-- THE SECOND FORM's CARD OF 'codicillaw04.MerkleOne'. -/
def merkleOneUptoCard : Claim7 := { stood := { row := merkleOneUptoRow, standIns := [], harness := (true, "ff61026eeedf91ca83574aa624bce8804c71f743984905847a0fe498e2f1575a"), looks := false }, kinds := [], alts := [], laidByText := true, laidKinds := [.data, .data, .data], laidTests := true, laidLooks := .later }
def MerkleOneUptoCardSaid : Prop := Claim7.holds Tryd.pinned (.plain (OpenSpec.upto merkleOneSpec)) merkleOneUptoCard
end Rows
end Go.Proofs.YtfnlehnhcekpkaaDoor
