/-
  DERIVED. GIVEN WITH THE SEED: THE CARDS: each row of YthcojmpigdojoaaDoorRows.lean that lists a variable, with what it lists TIED to the program's text (the seventh form; the later family's looks); each row that meets fmt, with fmt's text TOLD by the authors' own Lean function (tested against real Go, not proved from fmt's source: count such statements apart). THE CARD IS WHAT COUNTS. Prove the row's statement (the work); the ties are given (YthcojmpigdojoaaDoorTie.lean); close each card by the builder's one call (the guide's Derived/Test/ToyasCard.lean, 'card_holds'). Laid BY PROGRAM, IN A SANDBOX (cutbox-door.mjs). By AI agents, Wed Nov 11 2026. No macro, syntax, notation, axiom, sorry.
-/
import Derived.Test.YthcojmpigdojoaaDoorRows
import GoSem.ClaimSeven
namespace Go.Proofs.YthcojmpigdojoaaDoor
namespace Rows

/-- THE TIED CARD OF 'codicillaw02.ValueCounts'. -/
def valueCountsCard : Claim7 := { stood := { row := valueCountsRow, standIns := [], harness := (true, "a841ccecdd8b71403913e99666ca19da52e6514d08af1ef7b30f79daf3317f05"), looks := true }, kinds := [], alts := [], laidByText := true, laidKinds := [.data, .data, .data, .data, .sentinel, .sentinel, .pinned], laidTests := true, laidLooks := .later }
def ValueCountsCardSaid : Prop := Claim7.holds Tryd.pinned (.plain (OpenSpec.ofChange valueCountsSpec)) valueCountsCard

/-- THE TIED CARD OF 'codicillaw02.ValueOwn'. -/
def valueOwnCard : Claim7 := { stood := { row := valueOwnRow, standIns := [], harness := (true, "a841ccecdd8b71403913e99666ca19da52e6514d08af1ef7b30f79daf3317f05"), looks := true }, kinds := [], alts := [], laidByText := true, laidKinds := [.data, .data, .data, .data, .sentinel, .sentinel, .pinned], laidTests := true, laidLooks := .later }
def ValueOwnCardSaid : Prop := Claim7.holds Tryd.pinned (.plain (OpenSpec.ofChange valueOwnSpec)) valueOwnCard

/-- THE TIED CARD OF 'codicillaw02.ValueHeld'. -/
def valueHeldCard : Claim7 := { stood := { row := valueHeldRow, standIns := [], harness := (true, "a841ccecdd8b71403913e99666ca19da52e6514d08af1ef7b30f79daf3317f05"), looks := true }, kinds := [], alts := [], laidByText := true, laidKinds := [.data, .data, .data, .data, .sentinel, .sentinel, .pinned], laidTests := true, laidLooks := .later }
def ValueHeldCardSaid : Prop := Claim7.holds Tryd.pinned (.plain (OpenSpec.ofChange valueHeldSpec)) valueHeldCard

/-- THE TIED CARD OF 'codicillaw02.ValueOrder'. -/
def valueOrderCard : Claim7 := { stood := { row := valueOrderRow, standIns := [], harness := (true, "a841ccecdd8b71403913e99666ca19da52e6514d08af1ef7b30f79daf3317f05"), looks := true }, kinds := [], alts := [], laidByText := true, laidKinds := [.data, .data, .data, .data, .sentinel, .sentinel, .pinned], laidTests := true, laidLooks := .later }
def ValueOrderCardSaid : Prop := Claim7.holds Tryd.pinned (.plain (OpenSpec.ofChange valueOrderSpec)) valueOrderCard

/-- THE TIED CARD OF 'codicillaw02.ValueInside'. -/
def valueInsideCard : Claim7 := { stood := { row := valueInsideRow, standIns := [], harness := (true, "a841ccecdd8b71403913e99666ca19da52e6514d08af1ef7b30f79daf3317f05"), looks := true }, kinds := [], alts := [], laidByText := true, laidKinds := [.data, .data, .data, .data, .sentinel, .sentinel, .pinned], laidTests := true, laidLooks := .later }
def ValueInsideCardSaid : Prop := Claim7.holds Tryd.pinned (.plain (OpenSpec.ofChange valueInsideSpec)) valueInsideCard

/-- THE TIED CARD OF 'codicillaw02.ValueSorts'. -/
def valueSortsCard : Claim7 := { stood := { row := valueSortsRow, standIns := [], harness := (true, "a841ccecdd8b71403913e99666ca19da52e6514d08af1ef7b30f79daf3317f05"), looks := true }, kinds := [], alts := [], laidByText := true, laidKinds := [.data, .data, .data, .data, .sentinel, .sentinel, .pinned], laidTests := true, laidLooks := .later }
def ValueSortsCardSaid : Prop := Claim7.holds Tryd.pinned (.plain (OpenSpec.ofChange valueSortsSpec)) valueSortsCard

/-- THE TIED CARD OF 'codicillaw02.ValueParts'. -/
def valuePartsCard : Claim7 := { stood := { row := valuePartsRow, standIns := [], harness := (true, "a841ccecdd8b71403913e99666ca19da52e6514d08af1ef7b30f79daf3317f05"), looks := true }, kinds := [], alts := [], laidByText := true, laidKinds := [.data, .data, .data, .data, .sentinel, .sentinel, .pinned], laidTests := true, laidLooks := .later }
def ValuePartsCardSaid : Prop := Claim7.holds Tryd.pinned (.plain (OpenSpec.ofChange valuePartsSpec)) valuePartsCard

/-- THE TIED CARD OF 'codicillaw02.ValuePuts'. -/
def valuePutsCard : Claim7 := { stood := { row := valuePutsRow, standIns := [], harness := (true, "a841ccecdd8b71403913e99666ca19da52e6514d08af1ef7b30f79daf3317f05"), looks := true }, kinds := [], alts := [], laidByText := true, laidKinds := [.data, .data, .data, .data, .sentinel, .sentinel, .pinned], laidTests := true, laidLooks := .later }
def ValuePutsCardSaid : Prop := Claim7.holds Tryd.pinned (.plain (OpenSpec.ofChange valuePutsSpec)) valuePutsCard

/-- THE SECOND FORM's CARD OF 'codicillaw02.ValueCounts'. -/
def valueCountsUptoCard : Claim7 := { stood := { row := valueCountsUptoRow, standIns := [], harness := (true, "a841ccecdd8b71403913e99666ca19da52e6514d08af1ef7b30f79daf3317f05"), looks := true }, kinds := [], alts := [], laidByText := true, laidKinds := [.data, .data, .data, .data, .sentinel, .sentinel, .pinned], laidTests := true, laidLooks := .later }
def ValueCountsUptoCardSaid : Prop := Claim7.holds Tryd.pinned (.plain (OpenSpec.upto valueCountsSpec)) valueCountsUptoCard

/-- THE SECOND FORM's CARD OF 'codicillaw02.ValueOwn'. -/
def valueOwnUptoCard : Claim7 := { stood := { row := valueOwnUptoRow, standIns := [], harness := (true, "a841ccecdd8b71403913e99666ca19da52e6514d08af1ef7b30f79daf3317f05"), looks := true }, kinds := [], alts := [], laidByText := true, laidKinds := [.data, .data, .data, .data, .sentinel, .sentinel, .pinned], laidTests := true, laidLooks := .later }
def ValueOwnUptoCardSaid : Prop := Claim7.holds Tryd.pinned (.plain (OpenSpec.upto valueOwnSpec)) valueOwnUptoCard

/-- THE SECOND FORM's CARD OF 'codicillaw02.ValueHeld'. -/
def valueHeldUptoCard : Claim7 := { stood := { row := valueHeldUptoRow, standIns := [], harness := (true, "a841ccecdd8b71403913e99666ca19da52e6514d08af1ef7b30f79daf3317f05"), looks := true }, kinds := [], alts := [], laidByText := true, laidKinds := [.data, .data, .data, .data, .sentinel, .sentinel, .pinned], laidTests := true, laidLooks := .later }
def ValueHeldUptoCardSaid : Prop := Claim7.holds Tryd.pinned (.plain (OpenSpec.upto valueHeldSpec)) valueHeldUptoCard

/-- THE SECOND FORM's CARD OF 'codicillaw02.ValueOrder'. -/
def valueOrderUptoCard : Claim7 := { stood := { row := valueOrderUptoRow, standIns := [], harness := (true, "a841ccecdd8b71403913e99666ca19da52e6514d08af1ef7b30f79daf3317f05"), looks := true }, kinds := [], alts := [], laidByText := true, laidKinds := [.data, .data, .data, .data, .sentinel, .sentinel, .pinned], laidTests := true, laidLooks := .later }
def ValueOrderUptoCardSaid : Prop := Claim7.holds Tryd.pinned (.plain (OpenSpec.upto valueOrderSpec)) valueOrderUptoCard

/-- THE SECOND FORM's CARD OF 'codicillaw02.ValueInside'. -/
def valueInsideUptoCard : Claim7 := { stood := { row := valueInsideUptoRow, standIns := [], harness := (true, "a841ccecdd8b71403913e99666ca19da52e6514d08af1ef7b30f79daf3317f05"), looks := true }, kinds := [], alts := [], laidByText := true, laidKinds := [.data, .data, .data, .data, .sentinel, .sentinel, .pinned], laidTests := true, laidLooks := .later }
def ValueInsideUptoCardSaid : Prop := Claim7.holds Tryd.pinned (.plain (OpenSpec.upto valueInsideSpec)) valueInsideUptoCard

/-- THE SECOND FORM's CARD OF 'codicillaw02.ValueSorts'. -/
def valueSortsUptoCard : Claim7 := { stood := { row := valueSortsUptoRow, standIns := [], harness := (true, "a841ccecdd8b71403913e99666ca19da52e6514d08af1ef7b30f79daf3317f05"), looks := true }, kinds := [], alts := [], laidByText := true, laidKinds := [.data, .data, .data, .data, .sentinel, .sentinel, .pinned], laidTests := true, laidLooks := .later }
def ValueSortsUptoCardSaid : Prop := Claim7.holds Tryd.pinned (.plain (OpenSpec.upto valueSortsSpec)) valueSortsUptoCard

/-- THE SECOND FORM's CARD OF 'codicillaw02.ValueParts'. -/
def valuePartsUptoCard : Claim7 := { stood := { row := valuePartsUptoRow, standIns := [], harness := (true, "a841ccecdd8b71403913e99666ca19da52e6514d08af1ef7b30f79daf3317f05"), looks := true }, kinds := [], alts := [], laidByText := true, laidKinds := [.data, .data, .data, .data, .sentinel, .sentinel, .pinned], laidTests := true, laidLooks := .later }
def ValuePartsUptoCardSaid : Prop := Claim7.holds Tryd.pinned (.plain (OpenSpec.upto valuePartsSpec)) valuePartsUptoCard

/-- THE SECOND FORM's CARD OF 'codicillaw02.ValuePuts'. -/
def valuePutsUptoCard : Claim7 := { stood := { row := valuePutsUptoRow, standIns := [], harness := (true, "a841ccecdd8b71403913e99666ca19da52e6514d08af1ef7b30f79daf3317f05"), looks := true }, kinds := [], alts := [], laidByText := true, laidKinds := [.data, .data, .data, .data, .sentinel, .sentinel, .pinned], laidTests := true, laidLooks := .later }
def ValuePutsUptoCardSaid : Prop := Claim7.holds Tryd.pinned (.plain (OpenSpec.upto valuePutsSpec)) valuePutsUptoCard
end Rows
end Go.Proofs.YthcojmpigdojoaaDoor
