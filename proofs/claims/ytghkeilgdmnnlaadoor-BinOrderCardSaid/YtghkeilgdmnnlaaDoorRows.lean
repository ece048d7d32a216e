/-
  NARROWER THAN 'FOR EVERY INPUT', by the rows' own cells (each row's printed sentence says how): BinTexts: loops, laid · BinNumbers: laid · BinBack: loops, laid · BinLists: loops, laid · BinOrder: laid · BinSizes: loops, laid · BinAlike: loops, laid.
  DERIVED. THE GIVEN ROWS OF THIS SEAT. 7 by the template 'for every input the law returns true; each argument reads behind the call as it read before'; 0 by the template 'total and deterministic' (their statements: YtghkeilgdmnnlaaDoorTotals.lean).
  GIVEN WITH THE SEED: the statements are not yours to turn. If you find one false, say at which input.
  Laid BY PROGRAM, IN A SANDBOX (cutbox-rows.mjs): the forced cells as the released guide's own fill.sh prints them over the translation 71aa74df5e7de41d… (all of the seat's roots in one cut). By AI agents, Wed Nov 11 2026. No macro, syntax, notation, axiom, sorry.
-/
import Derived.Test.YtghkeilgdmnnlaaDoorChecked
import GoSem.PinnedTables
import GoSem.Claim
import GoSem.ClaimJoined
import GoSem.ClaimMapViews
import Derived.JoinedTies
import Derived.KernelRfl
namespace Go.Proofs.YtghkeilgdmnnlaaDoor
/- THE CELL 'sum', in the pinned program and in every row, IS THE sha256 OF THE DUMP (.gsa) THAT YtghkeilgdmnnlaaDoorProg.lean LOADS. Nothing in Lean hashes anything: it is a label: what it is worth is what the hold of that sum in a sandbox is worth. -/
noncomputable def Tryd.pinned : Pinned := { name := "ytghkeilgdmnnlaadoor", sum := "71aa74df5e7de41d259b1e5aee3485a243539897a3f64674e6b44eace8e1e62d", checked := Tryd.checked }
namespace Rows
def none {H : Type} : Left H := { results := [], args := [] }

/- WHAT THE LISTED PACKAGE-LEVEL VARIABLES READ AS WHEN THE CALL BEGINS. Each datum BY PROGRAM (the guide's laid-datum.mjs) off the statement by which the dump's own 'gosem.cut.vars' lays the variable. In a bare row this is a premise. The card (YtghkeilgdmnnlaaDoorCards.lean) ties it to the program's text. -/
def laid_unicode_utf8_acceptRanges {H : Type} : DataW H := .agg [.agg [.lit (.int .u8 128), .lit (.int .u8 191)], .agg [.lit (.int .u8 160), .lit (.int .u8 191)], .agg [.lit (.int .u8 128), .lit (.int .u8 159)], .agg [.lit (.int .u8 144), .lit (.int .u8 191)], .agg [.lit (.int .u8 128), .lit (.int .u8 143)], .agg [.lit (.int .u8 0), .lit (.int .u8 0)], .agg [.lit (.int .u8 0), .lit (.int .u8 0)], .agg [.lit (.int .u8 0), .lit (.int .u8 0)], .agg [.lit (.int .u8 0), .lit (.int .u8 0)], .agg [.lit (.int .u8 0), .lit (.int .u8 0)], .agg [.lit (.int .u8 0), .lit (.int .u8 0)], .agg [.lit (.int .u8 0), .lit (.int .u8 0)], .agg [.lit (.int .u8 0), .lit (.int .u8 0)], .agg [.lit (.int .u8 0), .lit (.int .u8 0)], .agg [.lit (.int .u8 0), .lit (.int .u8 0)], .agg [.lit (.int .u8 0), .lit (.int .u8 0)]]
/-- One of Go's own tables, pinned by name: the form's constant. -/
def laid_unicode_utf8_first : DataW Unit := Go.Pinned.utf8First

/-- 'codicillaw03.BinTexts': WHATEVER THE INPUT: true; the input reads as it did. -/
def binTextsSpec : ChangeSpec := { name := "binTexts", fn := fun _ => fun
  | [d1, d2] => { results := [.lit (.bool true)], args := [d1, d2] }
  | _ => none }
def binTextsRow : OpenClaim := { program := "ytghkeilgdmnnlaadoor", sum := "71aa74df5e7de41d259b1e5aee3485a243539897a3f64674e6b44eace8e1e62d", func := "codicil/codicillaw03.BinTexts", spec := "binTexts", unfollowed := true, recurses := true, named := ["unicode/utf8.first", "unicode/utf8.acceptRanges"], loops := true, apart := false, laid := [("unicode/utf8.acceptRanges", laid_unicode_utf8_acceptRanges), ("unicode/utf8.first", laid_unicode_utf8_first)] }
def BinTextsSaid : Prop := binTextsRow.holds Tryd.pinned (OpenSpec.ofChange binTextsSpec)

/-- ITS FALSE NEIGHBOUR: 'it returns false'. Refute it at one input. -/
def binTextsWrong : ChangeSpec := { name := "binTexts", fn := fun _ => fun
  | [d1, d2] => { results := [.lit (.bool false)], args := [d1, d2] }
  | _ => none }
def BinTextsWrongFalsely : Prop := binTextsRow.holds Tryd.pinned (OpenSpec.ofChange binTextsWrong)

/-- 'codicillaw03.BinNumbers': WHATEVER THE INPUT: true; the input reads as it did. -/
def binNumbersSpec : ChangeSpec := { name := "binNumbers", fn := fun _ => fun
  | [d1, d2] => { results := [.lit (.bool true)], args := [d1, d2] }
  | _ => none }
def binNumbersRow : OpenClaim := { program := "ytghkeilgdmnnlaadoor", sum := "71aa74df5e7de41d259b1e5aee3485a243539897a3f64674e6b44eace8e1e62d", func := "codicil/codicillaw03.BinNumbers", spec := "binNumbers", unfollowed := true, recurses := true, named := ["unicode/utf8.first", "unicode/utf8.acceptRanges"], apart := false, laid := [("unicode/utf8.acceptRanges", laid_unicode_utf8_acceptRanges), ("unicode/utf8.first", laid_unicode_utf8_first)] }
def BinNumbersSaid : Prop := binNumbersRow.holds Tryd.pinned (OpenSpec.ofChange binNumbersSpec)

/-- ITS FALSE NEIGHBOUR: 'it returns false'. Refute it at one input. -/
def binNumbersWrong : ChangeSpec := { name := "binNumbers", fn := fun _ => fun
  | [d1, d2] => { results := [.lit (.bool false)], args := [d1, d2] }
  | _ => none }
def BinNumbersWrongFalsely : Prop := binNumbersRow.holds Tryd.pinned (OpenSpec.ofChange binNumbersWrong)

/-- 'codicillaw03.BinBack': WHATEVER THE INPUT: true; the input reads as it did. -/
def binBackSpec : ChangeSpec := { name := "binBack", fn := fun _ => fun
  | [d1, d2] => { results := [.lit (.bool true)], args := [d1, d2] }
  | _ => none }
def binBackRow : OpenClaim := { program := "ytghkeilgdmnnlaadoor", sum := "71aa74df5e7de41d259b1e5aee3485a243539897a3f64674e6b44eace8e1e62d", func := "codicil/codicillaw03.BinBack", spec := "binBack", unfollowed := true, recurses := true, named := ["unicode/utf8.first", "unicode/utf8.acceptRanges"], loops := true, apart := false, laid := [("unicode/utf8.acceptRanges", laid_unicode_utf8_acceptRanges), ("unicode/utf8.first", laid_unicode_utf8_first)] }
def BinBackSaid : Prop := binBackRow.holds Tryd.pinned (OpenSpec.ofChange binBackSpec)

/-- ITS FALSE NEIGHBOUR: 'it returns false'. Refute it at one input. -/
def binBackWrong : ChangeSpec := { name := "binBack", fn := fun _ => fun
  | [d1, d2] => { results := [.lit (.bool false)], args := [d1, d2] }
  | _ => none }
def BinBackWrongFalsely : Prop := binBackRow.holds Tryd.pinned (OpenSpec.ofChange binBackWrong)

/-- 'codicillaw03.BinLists': WHATEVER THE INPUT: true; the input reads as it did. -/
def binListsSpec : ChangeSpec := { name := "binLists", fn := fun _ => fun
  | [d1, d2] => { results := [.lit (.bool true)], args := [d1, d2] }
  | _ => none }
def binListsRow : OpenClaim := { program := "ytghkeilgdmnnlaadoor", sum := "71aa74df5e7de41d259b1e5aee3485a243539897a3f64674e6b44eace8e1e62d", func := "codicil/codicillaw03.BinLists", spec := "binLists", unfollowed := true, recurses := true, named := ["unicode/utf8.first", "unicode/utf8.acceptRanges"], loops := true, apart := false, laid := [("unicode/utf8.acceptRanges", laid_unicode_utf8_acceptRanges), ("unicode/utf8.first", laid_unicode_utf8_first)] }
def BinListsSaid : Prop := binListsRow.holds Tryd.pinned (OpenSpec.ofChange binListsSpec)

/-- ITS FALSE NEIGHBOUR: 'it returns false'. Refute it at one input. -/
def binListsWrong : ChangeSpec := { name := "binLists", fn := fun _ => fun
  | [d1, d2] => { results := [.lit (.bool false)], args := [d1, d2] }
  | _ => none }
def BinListsWrongFalsely : Prop := binListsRow.holds Tryd.pinned (OpenSpec.ofChange binListsWrong)

/-- 'codicillaw03.BinOrder': WHATEVER THE INPUT: true; the input reads as it did. -/
def binOrderSpec : ChangeSpec := { name := "binOrder", fn := fun _ => fun
  | [d1, d2] => { results := [.lit (.bool true)], args := [d1, d2] }
  | _ => none }
def binOrderRow : OpenClaim := { program := "ytghkeilgdmnnlaadoor", sum := "71aa74df5e7de41d259b1e5aee3485a243539897a3f64674e6b44eace8e1e62d", func := "codicil/codicillaw03.BinOrder", spec := "binOrder", unfollowed := true, recurses := true, named := ["unicode/utf8.first", "unicode/utf8.acceptRanges"], apart := false, laid := [("unicode/utf8.acceptRanges", laid_unicode_utf8_acceptRanges), ("unicode/utf8.first", laid_unicode_utf8_first)] }
def BinOrderSaid : Prop := binOrderRow.holds Tryd.pinned (OpenSpec.ofChange binOrderSpec)

/-- ITS FALSE NEIGHBOUR: 'it returns false'. Refute it at one input. -/
def binOrderWrong : ChangeSpec := { name := "binOrder", fn := fun _ => fun
  | [d1, d2] => { results := [.lit (.bool false)], args := [d1, d2] }
  | _ => none }
def BinOrderWrongFalsely : Prop := binOrderRow.holds Tryd.pinned (OpenSpec.ofChange binOrderWrong)

/-- 'codicillaw03.BinSizes': WHATEVER THE INPUT: true; the input reads as it did. -/
def binSizesSpec : ChangeSpec := { name := "binSizes", fn := fun _ => fun
  | [d] => { results := [.lit (.bool true)], args := [d] }
  | _ => none }
def binSizesRow : OpenClaim := { program := "ytghkeilgdmnnlaadoor", sum := "71aa74df5e7de41d259b1e5aee3485a243539897a3f64674e6b44eace8e1e62d", func := "codicil/codicillaw03.BinSizes", spec := "binSizes", unfollowed := true, recurses := true, named := ["unicode/utf8.first", "unicode/utf8.acceptRanges"], loops := true, apart := false, laid := [("unicode/utf8.acceptRanges", laid_unicode_utf8_acceptRanges), ("unicode/utf8.first", laid_unicode_utf8_first)] }
def BinSizesSaid : Prop := binSizesRow.holds Tryd.pinned (OpenSpec.ofChange binSizesSpec)

/-- ITS FALSE NEIGHBOUR: 'it returns false'. Refute it at one input. -/
def binSizesWrong : ChangeSpec := { name := "binSizes", fn := fun _ => fun
  | [d] => { results := [.lit (.bool false)], args := [d] }
  | _ => none }
def BinSizesWrongFalsely : Prop := binSizesRow.holds Tryd.pinned (OpenSpec.ofChange binSizesWrong)

/-- 'codicillaw03.BinAlike': WHATEVER THE INPUT: true; the input reads as it did. -/
def binAlikeSpec : ChangeSpec := { name := "binAlike", fn := fun _ => fun
  | [d1, d2] => { results := [.lit (.bool true)], args := [d1, d2] }
  | _ => none }
def binAlikeRow : OpenClaim := { program := "ytghkeilgdmnnlaadoor", sum := "71aa74df5e7de41d259b1e5aee3485a243539897a3f64674e6b44eace8e1e62d", func := "codicil/codicillaw03.BinAlike", spec := "binAlike", unfollowed := true, recurses := true, named := ["unicode/utf8.first", "unicode/utf8.acceptRanges"], loops := true, apart := false, laid := [("unicode/utf8.acceptRanges", laid_unicode_utf8_acceptRanges), ("unicode/utf8.first", laid_unicode_utf8_first)] }
def BinAlikeSaid : Prop := binAlikeRow.holds Tryd.pinned (OpenSpec.ofChange binAlikeSpec)

/-- ITS FALSE NEIGHBOUR: 'it returns false'. Refute it at one input. -/
def binAlikeWrong : ChangeSpec := { name := "binAlike", fn := fun _ => fun
  | [d1, d2] => { results := [.lit (.bool false)], args := [d1, d2] }
  | _ => none }
def BinAlikeWrongFalsely : Prop := binAlikeRow.holds Tryd.pinned (OpenSpec.ofChange binAlikeWrong)

/- THE SECOND FORM. 'bulk': how many values and letters a reading holds, each counted each time it is reached (what is shared counts as often as it is met; a slice's spare places count too). A statement '..UptoSaid' is the law's where the arguments, and the package variables that the reading takes, are together of bulk at most 1048576: NARROWER than '..Said'. Prove '..Said' where nothing that the law and all that it calls make is longer than what came in: it says more and counts as full. Else prove '..UptoSaid'. A law counts once. -/
mutual
def uptoBulk {H : Type} : DataW H → Nat
  | .lit (.string bytes) => bytes.length + 1
  | .lit _ => 1
  | .nil => 1
  | .ptr d => uptoBulk d + 1
  | .slice elems spare => uptoBulkAll elems + uptoBulkAll spare + 1
  | .agg parts => uptoBulkAll parts + 1
  | .iface _ d => uptoBulk d + 1
  | .map entries => uptoBulkEntries entries + 1
  | .held _ => 1
def uptoBulkAll {H : Type} : List (DataW H) → Nat
  | [] => 0
  | d :: r => uptoBulk d + uptoBulkAll r
def uptoBulkEntries {H : Type} : List (Lit × DataW H) → Nat
  | [] => 0
  | x :: r => uptoBulkEntry x + uptoBulkEntries r
def uptoBulkEntry {H : Type} : Lit × DataW H → Nat
  | (.string bytes, d) => bytes.length + uptoBulk d + 1
  | (_, d) => uptoBulk d + 1
 end
def uptoSmall : (H : Type) → List (DataW H) → Bool := fun _ ds => decide (uptoBulkAll ds ≤ 1048576)
def OpenSpec.upto (s : _root_.Go.ChangeSpec) : _root_.Go.OpenSpec := { _root_.Go.OpenSpec.ofChange s with cond := some uptoSmall }

/-- 'codicillaw03.BinTexts', WHERE WHAT IT READS IS OF BULK AT MOST 1048576: true; the input reads as it did. -/
def binTextsUptoRow : OpenClaim := { program := "ytghkeilgdmnnlaadoor", sum := "71aa74df5e7de41d259b1e5aee3485a243539897a3f64674e6b44eace8e1e62d", func := "codicil/codicillaw03.BinTexts", spec := "binTexts", unfollowed := true, recurses := true, named := ["unicode/utf8.first", "unicode/utf8.acceptRanges"], loops := true, apart := false, laid := [("unicode/utf8.acceptRanges", laid_unicode_utf8_acceptRanges), ("unicode/utf8.first", laid_unicode_utf8_first)], narrowed := true }
def BinTextsUptoSaid : Prop := binTextsUptoRow.holds Tryd.pinned (OpenSpec.upto binTextsSpec)

/-- 'codicillaw03.BinNumbers', WHERE WHAT IT READS IS OF BULK AT MOST 1048576: true; the input reads as it did. -/
def binNumbersUptoRow : OpenClaim := { program := "ytghkeilgdmnnlaadoor", sum := "71aa74df5e7de41d259b1e5aee3485a243539897a3f64674e6b44eace8e1e62d", func := "codicil/codicillaw03.BinNumbers", spec := "binNumbers", unfollowed := true, recurses := true, named := ["unicode/utf8.first", "unicode/utf8.acceptRanges"], apart := false, laid := [("unicode/utf8.acceptRanges", laid_unicode_utf8_acceptRanges), ("unicode/utf8.first", laid_unicode_utf8_first)], narrowed := true }
def BinNumbersUptoSaid : Prop := binNumbersUptoRow.holds Tryd.pinned (OpenSpec.upto binNumbersSpec)

/-- 'codicillaw03.BinBack', WHERE WHAT IT READS IS OF BULK AT MOST 1048576: true; the input reads as it did. -/
def binBackUptoRow : OpenClaim := { program := "ytghkeilgdmnnlaadoor", sum := "71aa74df5e7de41d259b1e5aee3485a243539897a3f64674e6b44eace8e1e62d", func := "codicil/codicillaw03.BinBack", spec := "binBack", unfollowed := true, recurses := true, named := ["unicode/utf8.first", "unicode/utf8.acceptRanges"], loops := true, apart := false, laid := [("unicode/utf8.acceptRanges", laid_unicode_utf8_acceptRanges), ("unicode/utf8.first", laid_unicode_utf8_first)], narrowed := true }
def BinBackUptoSaid : Prop := binBackUptoRow.holds Tryd.pinned (OpenSpec.upto binBackSpec)

/-- 'codicillaw03.BinLists', WHERE WHAT IT READS IS OF BULK AT MOST 1048576: true; the input reads as it did. -/
def binListsUptoRow : OpenClaim := { program := "ytghkeilgdmnnlaadoor", sum := "71aa74df5e7de41d259b1e5aee3485a243539897a3f64674e6b44eace8e1e62d", func := "codicil/codicillaw03.BinLists", spec := "binLists", unfollowed := true, recurses := true, named := ["unicode/utf8.first", "unicode/utf8.acceptRanges"], loops := true, apart := false, laid := [("unicode/utf8.acceptRanges", laid_unicode_utf8_acceptRanges), ("unicode/utf8.first", laid_unicode_utf8_first)], narrowed := true }
def BinListsUptoSaid : Prop := binListsUptoRow.holds Tryd.pinned (OpenSpec.upto binListsSpec)

/-- 'codicillaw03.BinOrder', WHERE WHAT IT READS IS OF BULK AT MOST 1048576: true; the input reads as it did. -/
def binOrderUptoRow : OpenClaim := { program := "ytghkeilgdmnnlaadoor", sum := "71aa74df5e7de41d259b1e5aee3485a243539897a3f64674e6b44eace8e1e62d", func := "codicil/codicillaw03.BinOrder", spec := "binOrder", unfollowed := true, recurses := true, named := ["unicode/utf8.first", "unicode/utf8.acceptRanges"], apart := false, laid := [("unicode/utf8.acceptRanges", laid_unicode_utf8_acceptRanges), ("unicode/utf8.first", laid_unicode_utf8_first)], narrowed := true }
def BinOrderUptoSaid : Prop := binOrderUptoRow.holds Tryd.pinned (OpenSpec.upto binOrderSpec)

/-- 'codicillaw03.BinSizes', WHERE WHAT IT READS IS OF BULK AT MOST 1048576: true; the input reads as it did. -/
def binSizesUptoRow : OpenClaim := { program := "ytghkeilgdmnnlaadoor", sum := "71aa74df5e7de41d259b1e5aee3485a243539897a3f64674e6b44eace8e1e62d", func := "codicil/codicillaw03.BinSizes", spec := "binSizes", unfollowed := true, recurses := true, named := ["unicode/utf8.first", "unicode/utf8.acceptRanges"], loops := true, apart := false, laid := [("unicode/utf8.acceptRanges", laid_unicode_utf8_acceptRanges), ("unicode/utf8.first", laid_unicode_utf8_first)], narrowed := true }
def BinSizesUptoSaid : Prop := binSizesUptoRow.holds Tryd.pinned (OpenSpec.upto binSizesSpec)

/-- 'codicillaw03.BinAlike', WHERE WHAT IT READS IS OF BULK AT MOST 1048576: true; the input reads as it did. -/
def binAlikeUptoRow : OpenClaim := { program := "ytghkeilgdmnnlaadoor", sum := "71aa74df5e7de41d259b1e5aee3485a243539897a3f64674e6b44eace8e1e62d", func := "codicil/codicillaw03.BinAlike", spec := "binAlike", unfollowed := true, recurses := true, named := ["unicode/utf8.first", "unicode/utf8.acceptRanges"], loops := true, apart := false, laid := [("unicode/utf8.acceptRanges", laid_unicode_utf8_acceptRanges), ("unicode/utf8.first", laid_unicode_utf8_first)], narrowed := true }
def BinAlikeUptoSaid : Prop := binAlikeUptoRow.holds Tryd.pinned (OpenSpec.upto binAlikeSpec)

end Rows
end Go.Proofs.YtghkeilgdmnnlaaDoor
