/- What the rows of merkle want: the tables out of the row's list. No conditions. -/
import Derived.Test.YtfnlehnhcekpkaaDoorRow
import Derived.Test.YtfnlehnhcekpkaaDoorMkL
import Derived.Test.YtfnlehnhcekpkaaDoorCards
import Derived.Test.YtfnlehnhcekpkaaDoorTie
import Derived.Deep.DeepHandedRow
import Derived.Lib.LaidTab
import Derived.SliceStrings
set_option linter.unusedVariables false
set_option linter.unusedSimpArgs false
namespace Go.Proofs.YtfnlehnhcekpkaaDoor
open Go Go.RowKit Go.ChangeShapes Go.WideShapes Go.ChangeAt
set_option maxRecDepth 100000

theorem laidOutP : laidOutB Tryd.prog = true := by kernel_rfl
theorem ownP : ownKnob Tryd.prog.godebug = none := by kernel_rfl
def tab32 : List Int := Lib.deBruijn32tab.map Int.ofNat
def tab64 : List Int := Lib.deBruijn64tab.map Int.ofNat
theorem laid32 : Rows.laid_math_bits_deBruijn32tab (H := Unit) = Lib.tabData .u8 tab32 := by kernel_rfl
theorem laid64 : Rows.laid_math_bits_deBruijn64tab (H := Unit) = Lib.tabData .u8 tab64 := by kernel_rfl
theorem laidKs : Rows.laid_codicil_sha_constants (H := Unit) = Lib.tabData .u32 kTab := by kernel_rfl
theorem tabs_of {W : World} (h : laidMetH Tryd.prog [("math/bits.deBruijn32tab", Rows.laid_math_bits_deBruijn32tab), ("math/bits.deBruijn64tab", Rows.laid_math_bits_deBruijn64tab), ("codicil/sha.constants", Rows.laid_codicil_sha_constants)] W) : TzT W ∧ Ks W := by
  rw [laid32, laid64, laidKs] at h
  obtain ⟨ps, ⟨g1, t1, c1, u1, p1, q1, _, _, _, _, ⟨g2, t2, c2, u2, p2, q2, b1, b2, b3, b4, ⟨g3, t3, c3, u3, p3, q3, e1, e2, e3, e4, _, _⟩, _⟩, _⟩, _⟩ := h
  have gB : Tryd.prog.globalNamed "math/bits.deBruijn64tab" = some 1 := by kernel_rfl
  have gBt : (Tryd.prog.globals[1]?).map (·.type) = some 106 := by kernel_rfl
  have gK : Tryd.prog.globalNamed "codicil/sha.constants" = some 2 := by kernel_rfl
  have gKt : (Tryd.prog.globals[2]?).map (·.type) = some 110 := by kernel_rfl
  constructor
  · have h64 : Lib.TabIs Tryd.prog W "math/bits.deBruijn64tab" .u8 tab64 := by
      obtain rfl := Option.some.inj (gB.symm.trans b1)
      obtain rfl := Option.some.inj (gBt.symm.trans b2)
      unfold Lib.TabIs
      rw [b3, ← Lib.cells_of_tab Tryd.underlying106 Tryd.underlying5 (by kernel_rfl) (by kernel_rfl) b4]
    intro j hj
    have h1 := h64.cell gB j (by unfold tab64; rw [List.length_map]; exact hj)
    rw [h1]
    unfold tab64
    rw [List.getD_eq_getElem?_getD, List.getElem?_map, List.getD_eq_getElem?_getD, List.getElem?_eq_getElem hj]
    rfl
  · have h1 : Lib.TabIs Tryd.prog W "codicil/sha.constants" .u32 kTab := by
      obtain rfl := Option.some.inj (gK.symm.trans e1)
      obtain rfl := Option.some.inj (gKt.symm.trans e2)
      unfold Lib.TabIs
      rw [e3, ← Lib.cells_of_tab Tryd.underlying110 Tryd.underlying64 (by kernel_rfl) (by kernel_rfl) e4]
    unfold Lib.TabIs World.var? at h1
    rw [gK] at h1
    simp only [Option.bind_some] at h1
    split at h1
    · rename_i cs t f hh
      refine ⟨t, f, ?_⟩
      rw [hh]
      have := Option.some.inj h1
      rw [this]
      rfl
    · cases h1
theorem tz_lt {W : World} (h : TzT W) : 1 < W.heap.size := cell_lt' (h 0 (by decide))
/-- The world in which the tables lie as the text lays them. -/
noncomputable def laidWorld (os : Os) : World :=
  let w0 := World.holding Tryd.prog os ⟨#[], #[], []⟩
  let put (h : Array Obj) (g : Nat) (cs : Array Value) : Array Obj := h.modify g fun
    | .cells _ t frozen => .cells cs t frozen
    | o => o
  let h1 := put w0.heap 0 (tab32.map fun z => Value.int .u8 z).toArray
  let h2 := put h1 1 (tab64.map fun z => Value.int .u8 z).toArray
  let h3 := put h2 2 (u32s kTab)
  { w0 with heap := h3 }
theorem laid_metW (os : Os) (args : Array Value) : laidMet Tryd.prog [("math/bits.deBruijn32tab", Rows.laid_math_bits_deBruijn32tab), ("math/bits.deBruijn64tab", Rows.laid_math_bits_deBruijn64tab), ("codicil/sha.constants", Rows.laid_codicil_sha_constants)] ((laidWorld os).forCall (fun _ _ => 0) ⟨#[], args, []⟩).memory :=
  laidMet_of_run' 8 (by kernel_rfl) (by kernel_rfl)
theorem cell_lt {w : World} {a : Addr} {v : Value} (h : w.cell? a = some v) : a.block < w.heap.size := by
  rcases Nat.lt_or_ge a.block w.heap.size with h1 | h1
  · exact h1
  · exfalso
    unfold World.cell? at h
    rw [Array.getElem?_eq_none h1] at h
    simp at h
section
variable {H : Type} {enc : TypeId × Value → H}
theorem bulk_strs (ss : List ByteArray) : Rows.uptoBulkAll (strs (H := H) ss) = ss.length + (ss.flatMap fun s => s.data.toList).length := by
  induction ss with
  | nil => rfl
  | cons s ss ih =>
    show Rows.uptoBulkAll (DataW.lit (.string s.data.toList) :: strs ss) = _
    rw [Rows.uptoBulkAll, Rows.uptoBulk, ih]
    simp only [List.length_cons, List.flatMap_cons, List.length_append]
    omega
/-- A slice of texts, opened. -/
theorem open_texts {r : Reach} {b0 base : Nat} {sp : Nat → Bool} {held : Bool} {w : World} {v : Value} {d : DataW H} {ps : List MemPlace} (hv : Value.okWide Tryd.prog w r b0 22 v) (h : DataW.Trod enc Tryd.prog w base sp held 22 v d ps) :
    ∃ (p : Option Addr) (cap : Nat) (ss : List ByteArray), v = .slice p ss.length cap ∧ ss.length ≤ cap ∧ ss.length + (ss.flatMap fun s => s.data.toList).length ≤ Rows.uptoBulk d ∧
      ∀ k, k < ss.length → ∃ b o, p = some ⟨b, o, none⟩ ∧ b < w.heap.size ∧ w.cell? ⟨b, o + k, none⟩ = some (.string (ss[k]?.getD ByteArray.empty)) := by
  obtain ⟨a0, len, cap, rfl⟩ := okWide_slice Tryd.underlying22 hv
  obtain ⟨fuel, hf⟩ := h
  rcases open_strings Tryd.underlying22 Tryd.underlying9 (by kernel_rfl) hf with ⟨hcs, hx⟩ | ⟨a, len', cap', ss, hcs, _, hl, hm, hlen, hx, hcell, hmx⟩
  · simp [Value.cells] at hcs
    obtain ⟨rfl, rfl, rfl⟩ := hcs
    simp only [Prod.mk.injEq] at hx
    obtain ⟨rfl, rfl⟩ := hx
    exact ⟨none, 0, [], rfl, Nat.le_refl _, by simp, fun k hk => by simp at hk⟩
  · simp [Value.cells] at hcs
    obtain ⟨rfl, rfl, rfl⟩ := hcs
    simp only [Prod.mk.injEq] at hx
    obtain ⟨rfl, rfl⟩ := hx
    have hsl : len ≤ ss.length := by rw [hlen]; split <;> omega
    have htl : (ss.take len).length = len := by rw [List.length_take]; omega
    refine ⟨some a, cap, ss.take len, by rw [htl], by rw [htl]; omega, ?_, ?_⟩
    · rw [Rows.uptoBulk, bulk_strs]
      omega
    · intro k hk
      rw [htl] at hk
      have h1 := hcell k (by omega)
      have h00 := hcell 0 (by omega)
      obtain ⟨b, off, spot⟩ := a
      have hspot : spot = none := by simpa [Addr.add] using World.cell?_spot h00
      subst hspot
      refine ⟨b, off, rfl, by simpa [Addr.add] using cell_lt h00, ?_⟩
      rw [← Go.WideShapes.add_plain, h1, List.getElem?_take_of_lt hk, List.getD_eq_getElem?_getD]
end
theorem le_flat : ∀ (ss : List ByteArray) {t : ByteArray}, t ∈ ss → t.data.toList.length ≤ (ss.flatMap fun s => s.data.toList).length
  | s :: ss, t, h => by
    rw [List.flatMap_cons, List.length_append]
    rcases List.mem_cons.1 h with rfl | h
    · omega
    · have := le_flat ss h
      omega
theorem bs_back (s : ByteArray) : bs s.data.toList = s := by
  cases s
  rfl
/-- A slice of texts among a row's arguments. -/
theorem open_strs {H : Type} {enc : TypeId × Value → H} {r : Reach} {b0 base : Nat} {sp : Nat → Bool} {held : Bool} {w : World} {v : Value} {d : DataW H} {ps : List MemPlace} (hv : Value.okWide Tryd.prog w r b0 22 v) (h : DataW.Trod enc Tryd.prog w base sp held 22 v d ps) :
    ∃ (p : Option Addr) (cap : Nat) (l : List (List UInt8)), v = .slice p l.length cap ∧ l.length ≤ cap ∧ l.length ≤ Rows.uptoBulk d ∧ (∀ s ∈ l, s.length ≤ Rows.uptoBulk d) ∧ HasS (fun _ => True) w p l := by
  obtain ⟨p, cap, ss, rfl, hcap, hb, hc⟩ := open_texts hv h
  refine ⟨p, cap, ss.map fun s => s.data.toList, by rw [List.length_map], by rw [List.length_map]; exact hcap, by rw [List.length_map]; omega, fun s hs => ?_, fun k hk => ?_⟩
  · obtain ⟨t, ht, rfl⟩ := List.mem_map.1 hs
    have h1 : t.data.toList.length ≤ (ss.flatMap fun s => s.data.toList).length := by
      exact le_flat ss ht
    omega
  · rw [List.length_map] at hk
    obtain ⟨b, o, q1, q2, q3⟩ := hc k hk
    refine ⟨b, o, q1, trivial, q2, ?_⟩
    rw [q3, List.getElem_map, bs_back, List.getElem?_eq_getElem hk]
    rfl
end Go.Proofs.YtfnlehnhcekpkaaDoor
