/- What the rows of value want: the tables and the two errors out of the row's list. No conditions. -/
import Derived.Test.YthcojmpigdojoaaDoorRow
import Derived.Test.YthcojmpigdojoaaDoorChkSmall
import Derived.Test.YthcojmpigdojoaaDoorNum
import Derived.Test.YthcojmpigdojoaaDoorCards
import Derived.Test.YthcojmpigdojoaaDoorTie
import Derived.Deep.DeepHandedRow
import Derived.Lib.LaidTab
import Derived.Lib.TrailingZeros
import Derived.Lib.LaidU8T
import Derived.Stop.LaidErr
set_option linter.unusedVariables false
set_option linter.unusedSimpArgs false
namespace Go.Proofs.YthcojmpigdojoaaDoor
open Go Go.RowKit Go.ChangeShapes Go.WideShapes Go.ChangeAt
set_option maxRecDepth 100000

theorem laidOutP : laidOutB Tryd.prog = true := by kernel_rfl
theorem ownP : ownKnob Tryd.prog.godebug = none := by kernel_rfl
theorem acc_is : Rows.laid_unicode_utf8_acceptRanges (H := Unit) = Lib.acceptData := by kernel_rfl
theorem fst_is : Rows.laid_unicode_utf8_first = Lib.firstData := by kernel_rfl
theorem pow_is : Rows.laid_internal_strconv_uint64pow10 (H := Unit) = Lib.tabData .u64 Lib.pow10Tab := by kernel_rfl
abbrev vlaid : List (String × DataW Unit) := [("math/bits.deBruijn32tab", Rows.laid_math_bits_deBruijn32tab), ("math/bits.deBruijn64tab", Rows.laid_math_bits_deBruijn64tab), ("internal/strconv.uint64pow10", Rows.laid_internal_strconv_uint64pow10), ("unicode/utf8.acceptRanges", Rows.laid_unicode_utf8_acceptRanges), ("strconv.ErrRange", Rows.laid_strconv_ErrRange), ("strconv.ErrSyntax", Rows.laid_strconv_ErrSyntax), ("unicode/utf8.first", Rows.laid_unicode_utf8_first)]
theorem u8_laid {W : World} (h : laidMetH Tryd.prog vlaid W) : U8T W := by
  have h' : laidMet Tryd.prog vlaid W := h
  have ha : Lib.VarReads Tryd.prog W "unicode/utf8.acceptRanges" Lib.acceptData := by rw [← acc_is]; exact Lib.laidMet.reads h' (by simp [vlaid])
  have hf : Lib.VarReads Tryd.prog W "unicode/utf8.first" Lib.firstData := by rw [← fst_is]; exact Lib.laidMet.reads h' (by simp [vlaid])
  exact utf8Tabs_of_readsT (U8Types.of196 Tryd.laysValid) ⟨by kernel_rfl, by kernel_rfl, by kernel_rfl, by kernel_rfl, by kernel_rfl, by kernel_rfl, by kernel_rfl⟩ hf ha
theorem vstar : "*" ++ "errors.errorString" = "*errors.errorString" := by decide
theorem row_of (u : TypeId) (h : Tryd.prog.typeName? 3 u = some "*errors.errorString") : u = 115 :=
  typeName_ptr_named (nm := "errors.errorString") (by rw [vstar]; kernel_rfl) (by kernel_rfl) (by decide) u (by rw [vstar]; exact h)
theorem num_laid {W : World} (h : laidMetH Tryd.prog vlaid W) : NumT W := by
  have h' : laidMet Tryd.prog vlaid W := h
  have h4 := (((h'.tail).tail).tail).tail
  have h5 := h4.tail
  have hrow : ∀ u, Tryd.prog.typeName? 3 u = some "*errors.errorString" → u = 115 := row_of
  obtain ⟨a3, s3, hv3, _⟩ := laid_sentinel (g := 3) (ti := 55) (tp := 115) (te := 117) (ts := 9) h4 (by kernel_rfl) (by kernel_rfl) Tryd.underlying55 hrow Tryd.underlying115 Tryd.underlying117 rfl rfl Tryd.underlying9 (by kernel_rfl) (by kernel_rfl)
  obtain ⟨a2, s2, hv2, _⟩ := laid_sentinel (g := 2) (ti := 55) (tp := 115) (te := 117) (ts := 9) h5 (by kernel_rfl) (by kernel_rfl) Tryd.underlying55 hrow Tryd.underlying115 Tryd.underlying117 rfl rfl Tryd.underlying9 (by kernel_rfl) (by kernel_rfl)
  have gB : Tryd.prog.globalNamed "internal/strconv.uint64pow10" = some 4 := by kernel_rfl
  have gBt : (Tryd.prog.globals[4]?).map (·.type) = some 120 := by kernel_rfl
  have hp : Lib.VarReads Tryd.prog W "internal/strconv.uint64pow10" (Lib.tabData .u64 Lib.pow10Tab) := by rw [← pow_is]; exact Lib.laidMet.reads h' (by simp [vlaid])
  obtain ⟨g, t, cs, fuel, p, hg, ht, hv, htr⟩ := hp
  obtain rfl := Option.some.inj (gB.symm.trans hg)
  obtain rfl := Option.some.inj (gBt.symm.trans ht)
  have htab : Lib.TabIs Tryd.prog W "internal/strconv.uint64pow10" .u64 Lib.pow10Tab := by
    unfold Lib.TabIs
    rw [hv, ← Lib.cells_of_tab Tryd.underlying120 Tryd.underlying101 (by kernel_rfl) (by kernel_rfl) htr]
  refine ⟨⟨115, .pointer (some a2), ?_⟩, ⟨115, .pointer (some a3), ?_⟩, htab, ?_⟩
  · simpa using World.var?_cell (by kernel_rfl : Tryd.prog.globalNamed "strconv.ErrSyntax" = some 2) hv2 0
  · simpa using World.var?_cell (by kernel_rfl : Tryd.prog.globalNamed "strconv.ErrRange" = some 3) hv3 0
  · have h6 := World.var?_cell gB hv 0
    unfold World.var? at hv
    rw [gB] at hv
    simp only [Option.bind_some] at hv
    rcases Nat.lt_or_ge 4 W.heap.size with h1 | h1
    · exact h1
    · rw [Array.getElem?_eq_none h1] at hv
      cases hv
noncomputable def low : Nat := (World.holding Tryd.prog default ⟨#[], #[], []⟩).heap.size
def tab32 : List Int := Lib.deBruijn32tab.map Int.ofNat
def tab64 : List Int := Lib.deBruijn64tab.map Int.ofNat
/-- The world in which the tables and the errors lie as the text lays them. -/
noncomputable def laidWorld (os : Os) : World :=
  let w0 := World.holding Tryd.prog os ⟨#[.cells #[.string ⟨#[118, 97, 108, 117, 101, 32, 111, 117, 116, 32, 111, 102, 32, 114, 97, 110, 103, 101]⟩] 117, .cells #[.string ⟨#[105, 110, 118, 97, 108, 105, 100, 32, 115, 121, 110, 116, 97, 120]⟩] 117], #[], []⟩
  let put (h : Array Obj) (g : Nat) (cs : Array Value) : Array Obj := h.modify g fun
    | .cells _ t frozen => .cells cs t frozen
    | o => o
  let h1 := put w0.heap 0 (Lib.firstTab.map fun z => Value.int .u8 z).toArray
  let h2 := put h1 1 ((List.range 16).flatMap fun i => [Value.int .u8 (Lib.accLo i), Value.int .u8 (Lib.accHi i)]).toArray
  let h3 := put h2 3 #[.iface 115 (.pointer (some ⟨low, 0, none⟩))]
  let h4 := put h3 2 #[.iface 115 (.pointer (some ⟨low + 1, 0, none⟩))]
  let h5 := put h4 4 (Lib.pow10Tab.map fun z => Value.int .u64 z).toArray
  let h6 := put h5 5 (tab32.map fun z => Value.int .u8 z).toArray
  let h7 := put h6 6 (tab64.map fun z => Value.int .u8 z).toArray
  { w0 with heap := h7 }
theorem laid_metW (os : Os) (args : Array Value) : laidMet Tryd.prog vlaid ((laidWorld os).forCall (fun _ _ => 0) ⟨#[], args, []⟩).memory :=
  laidMet_of_run' 8 (by kernel_rfl) (by kernel_rfl)
end Go.Proofs.YthcojmpigdojoaaDoor
