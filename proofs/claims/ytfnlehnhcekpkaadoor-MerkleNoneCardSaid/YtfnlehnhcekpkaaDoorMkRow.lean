/- What the rows of merkle want: the tables out of the row's list. No conditions. -/
import Derived.Test.YtfnlehnhcekpkaaDoorRow
import Derived.Test.YtfnlehnhcekpkaaDoorMkL
import Derived.Test.YtfnlehnhcekpkaaDoorCards
import Derived.Test.YtfnlehnhcekpkaaDoorTie
import Derived.Deep.DeepHandedRow
import Derived.Lib.LaidTab
import Derived.SliceStrings
set_option linter.unusedVariables false
set_option linter.unusedSimpArgs false
namespace Go.Proofs.YtfnlehnhcekpkaaDoor
open Go Go.RowKit Go.ChangeShapes Go.WideShapes Go.ChangeAt
set_option maxRecDepth 100000

theorem laidOutP : laidOutB Tryd.prog = true := by kernel_rfl
theorem ownP : ownKnob Tryd.prog.godebug = none := by kernel_rfl
def tab32 : List Int := Lib.deBruijn32tab.map Int.ofNat
def tab64 : List Int := Lib.deBruijn64tab.map Int.ofNat
theorem laid32 : Rows.laid_math_bits_deBruijn32tab (H := Unit) = Lib.tabData .u8 tab32 := by kernel_rfl
theorem laid64 : Rows.laid_math_bits_deBruijn64tab (H := Unit) = Lib.tabData .u8 tab64 := by kernel_rfl
theorem laidKs : Rows.laid_codicil_sha_constants (H := Unit) = Lib.tabData .u32 kTab := by kernel_rfl
theorem tabs_of {W : World} (h : laidMetH Tryd.prog [("math/bits.deBruijn32tab", Rows.laid_math_bits_deBruijn32tab), ("math/bits.deBruijn64tab", Rows.laid_math_bits_deBruijn64tab), ("codicil/sha.constants", Rows.laid_codicil_sha_constants)] W) : TzT W ∧ Ks W := by
  rw [laid32, laid64, laidKs] at h
  obtain ⟨ps, ⟨g1, t1, c1, u1, p1, q1, _, _, _, _, ⟨g2, t2, c2, u2, p2, q2, b1, b2, b3, b4, ⟨g3, t3, c3, u3, p3, q3, e1, e2, e3, e4, _, _⟩, _⟩, _⟩, _⟩ := h
  have gB : Tryd.prog.globalNamed "math/bits.deBruijn64tab" = some 1 := by kernel_rfl
  have gBt : (Tryd.prog.globals[1]?).map (·.type) = some 106 := by kernel_rfl
  have gK : Tryd.prog.globalNamed "codicil/sha.constants" = some 2 := by kernel_rfl
  have gKt : (Tryd.prog.globals[2]?).map (·.type) = some 110 := by kernel_rfl
  constructor
  · have h64 : Lib.TabIs Tryd.prog W "math/bits.deBruijn64tab" .u8 tab64 := by
      obtain rfl := Option.some.inj (gB.symm.trans b1)
      obtain rfl := Option.some.inj (gBt.symm.trans b2)
      unfold Lib.TabIs
      rw [b3, ← Lib.cells_of_tab Tryd.underlying106 Tryd.underlying5 (by kernel_rfl) (by kernel_rfl) b4]
    intro j hj
    have h1 := h64.cell gB j (by unfold tab64; rw [List.length_map]; exact hj)
    rw [h1]
    unfold tab64
    rw [List.getD_eq_getElem?_getD, List.getElem?_map, List.getD_eq_getElem?_getD, List.getElem?_eq_getElem hj]
    rfl
  · have h1 : Lib.TabIs Tryd.prog W "codicil/sha.constants" .u32 kTab := by
      obtain rfl := Option.some.inj (gK.symm.trans e1)
      obtain rfl := Option.some.inj (gKt.symm.trans e2)
      unfold Lib.TabIs
      rw [e3, ← Lib.cells_of_tab Tryd.underlying110 Tryd.underlying64 (by kernel_rfl) (by kernel_rfl) e4]
    unfold Lib.TabIs World.var? at h1
    rw [gK] at h1
    simp only [Option.bind_some] at h1
    split at h1
    · rename_i cs t f hh
      refine ⟨t, f, ?_⟩
      rw [hh]
      have := Option.some.inj h1
      rw [this]
      rfl
    · cases h1
theorem tz_lt {W : World} (h : TzT W) : 1 < W.heap.size := cell_lt' (h 0 (by decide))
/-- The world in which the tables lie as the text lays them. -/
noncomputable def laidWorld (os : Os) : World :=
  let w0 := World.holding Tryd.prog os ⟨#[], #[], []⟩
  let put (h : Array Obj) (g : Nat) (cs : Array Value) : Array Obj := h.modify g fun
    | .cells _ t frozen => .cells cs t frozen
    | o => o
  let h1 := put w0.heap 0 (tab32.map fun z => Value.int .u8 z).toArray
  let h2 := put h1 1 (tab64.map fun z => Value.int .u8 z).toArray
  let h3 := put h2 2 (u32s kTab)
  { w0 with heap := h3 }
theorem laid_metW (os : Os) (args : Array Value) : laidMet Tryd.prog [("math/bits.deBruijn32tab", Rows.laid_math_bits_deBruijn32tab), ("math/bits.deBruijn64tab", Rows.laid_math_bits_deBruijn64tab), ("codicil/sha.constants", Rows.laid_codicil_sha_constants)] ((laidWorld os).forCall (fun _ _ => 0) ⟨#[], args, []⟩).memory :=
  laidMet_of_run' 8 (by kernel_rfl) (by kernel_rfl)
end Go.Proofs.YtfnlehnhcekpkaaDoor
