/- A slice of texts among a row's arguments. No conditions. -/
import Derived.Test.YthcojmpigdojoaaDoorVValRow
import Derived.Test.YthcojmpigdojoaaDoorTxt
import Derived.SliceStrings
set_option linter.unusedVariables false
set_option linter.unusedSimpArgs false
namespace Go.Proofs.YthcojmpigdojoaaDoor
open Go Go.RowKit Go.ChangeShapes Go.WideShapes Go.ChangeAt
set_option maxRecDepth 100000
section
variable {H : Type} {enc : TypeId × Value → H}
theorem bulk_strs (ss : List ByteArray) : Rows.uptoBulkAll (strs (H := H) ss) = ss.length + (ss.flatMap fun s => s.data.toList).length := by
  induction ss with
  | nil => rfl
  | cons s ss ih =>
    show Rows.uptoBulkAll (DataW.lit (.string s.data.toList) :: strs ss) = _
    rw [Rows.uptoBulkAll, Rows.uptoBulk, ih]
    simp only [List.length_cons, List.flatMap_cons, List.length_append]
    omega
/-- A slice of texts, opened. -/
theorem open_texts {r : Reach} {b0 base : Nat} {sp : Nat → Bool} {held : Bool} {w : World} {v : Value} {d : DataW H} {ps : List MemPlace} (hv : Value.okWide Tryd.prog w r b0 43 v) (h : DataW.Trod enc Tryd.prog w base sp held 43 v d ps) :
    ∃ (p : Option Addr) (cap : Nat) (ss : List ByteArray), v = .slice p ss.length cap ∧ ss.length ≤ cap ∧ ss.length + (ss.flatMap fun s => s.data.toList).length ≤ Rows.uptoBulk d ∧
      ∀ k, k < ss.length → ∃ b o, p = some ⟨b, o, none⟩ ∧ b < w.heap.size ∧ w.cell? ⟨b, o + k, none⟩ = some (.string (ss[k]?.getD ByteArray.empty)) := by
  obtain ⟨a0, len, cap, rfl⟩ := okWide_slice Tryd.underlying43 hv
  obtain ⟨fuel, hf⟩ := h
  rcases open_strings Tryd.underlying43 Tryd.underlying9 (by kernel_rfl) hf with ⟨hcs, hx⟩ | ⟨a, len', cap', ss, hcs, _, hl, hm, hlen, hx, hcell, hmx⟩
  · simp [Value.cells] at hcs
    obtain ⟨rfl, rfl, rfl⟩ := hcs
    simp only [Prod.mk.injEq] at hx
    obtain ⟨rfl, rfl⟩ := hx
    exact ⟨none, 0, [], rfl, Nat.le_refl _, by simp, fun k hk => by simp at hk⟩
  · simp [Value.cells] at hcs
    obtain ⟨rfl, rfl, rfl⟩ := hcs
    simp only [Prod.mk.injEq] at hx
    obtain ⟨rfl, rfl⟩ := hx
    have hsl : len ≤ ss.length := by rw [hlen]; split <;> omega
    have htl : (ss.take len).length = len := by rw [List.length_take]; omega
    refine ⟨some a, cap, ss.take len, by rw [htl], by rw [htl]; omega, ?_, ?_⟩
    · rw [Rows.uptoBulk, bulk_strs]
      omega
    · intro k hk
      rw [htl] at hk
      have h1 := hcell k (by omega)
      have h00 := hcell 0 (by omega)
      obtain ⟨b, off, spot⟩ := a
      have hspot : spot = none := by simpa [Addr.add] using World.cell?_spot h00
      subst hspot
      refine ⟨b, off, rfl, by simpa [Addr.add] using cell_lt h00, ?_⟩
      rw [← Go.WideShapes.add_plain, h1, List.getElem?_take_of_lt hk, List.getD_eq_getElem?_getD]
end
theorem le_flat : ∀ (ss : List ByteArray) {t : ByteArray}, t ∈ ss → t.data.toList.length ≤ (ss.flatMap fun s => s.data.toList).length
  | s :: ss, t, h => by
    rw [List.flatMap_cons, List.length_append]
    rcases List.mem_cons.1 h with rfl | h
    · omega
    · have := le_flat ss h
      omega
theorem bs_back (s : ByteArray) : bs s.data.toList = s := by
  cases s
  rfl
/-- A slice of texts among a row's arguments. -/
theorem open_strs {H : Type} {enc : TypeId × Value → H} {r : Reach} {b0 base : Nat} {sp : Nat → Bool} {held : Bool} {w : World} {v : Value} {d : DataW H} {ps : List MemPlace} (hv : Value.okWide Tryd.prog w r b0 43 v) (h : DataW.Trod enc Tryd.prog w base sp held 43 v d ps) :
    ∃ (p : Option Addr) (cap : Nat) (l : List (List UInt8)), v = .slice p l.length cap ∧ l.length ≤ cap ∧ l.length ≤ Rows.uptoBulk d ∧ (∀ s ∈ l, s.length ≤ Rows.uptoBulk d) ∧ HasS (fun _ => True) w p l := by
  obtain ⟨p, cap, ss, rfl, hcap, hb, hc⟩ := open_texts hv h
  refine ⟨p, cap, ss.map fun s => s.data.toList, by rw [List.length_map], by rw [List.length_map]; exact hcap, by rw [List.length_map]; omega, fun s hs => ?_, fun k hk => ?_⟩
  · obtain ⟨t, ht, rfl⟩ := List.mem_map.1 hs
    have h1 : t.data.toList.length ≤ (ss.flatMap fun s => s.data.toList).length := by
      exact le_flat ss ht
    omega
  · rw [List.length_map] at hk
    obtain ⟨b, o, q1, q2, q3⟩ := hc k hk
    refine ⟨b, o, q1, trivial, q2, ?_⟩
    rw [q3, List.getElem_map, bs_back, List.getElem?_eq_getElem hk]
    rfl
theorem open_strsN {H : Type} {enc : TypeId × Value → H} {r : Reach} {b0 base : Nat} {sp : Nat → Bool} {held : Bool} {w : World} {v : Value} {d : DataW H} {ps : List MemPlace} (hv : Value.okWide Tryd.prog w r b0 43 v) (h : DataW.Trod enc Tryd.prog w base sp held 43 v d ps) :
    ∃ (p : Option Addr) (cap : Nat) (l : List (List UInt8)), v = .slice p l.length cap ∧ l.length ≤ cap ∧ (p = none → cap = 0) ∧ l.length ≤ Rows.uptoBulk d ∧ (∀ s ∈ l, s.length ≤ Rows.uptoBulk d) ∧ HasS (fun _ => True) w p l := by
  obtain ⟨p, cap, l, rfl, h1, h2, h3, h4⟩ := open_strs hv h
  refine ⟨p, cap, l, rfl, h1, ?_, h2, h3, h4⟩
  rintro rfl
  obtain ⟨fuel, hf⟩ := h
  rcases open_strings Tryd.underlying43 Tryd.underlying9 (by kernel_rfl) hf with ⟨hcs, _⟩ | ⟨a, len', cap', ss, hcs, _⟩
  · simp [Value.cells] at hcs
    exact hcs.2
  · simp [Value.cells] at hcs
end Go.Proofs.YthcojmpigdojoaaDoor
