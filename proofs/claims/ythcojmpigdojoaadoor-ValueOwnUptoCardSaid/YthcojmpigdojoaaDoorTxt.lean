/- Rows of texts in memory (as in MkA, for the seats without merkle). No conditions. -/
import Derived.Test.YthcojmpigdojoaaDoorBytes
import Derived.Below
set_option linter.unusedVariables false
set_option linter.unusedSimpArgs false
namespace Go.Proofs.YthcojmpigdojoaaDoor
open Go Go.RowKit
/-! Rows of texts in memory. -/
def HasS (S : Nat → Prop) (w : World) (p : Option Addr) (l : List (List UInt8)) : Prop := ∀ i (h : i < l.length), ∃ g o, p = some ⟨g, o, none⟩ ∧ S g ∧ g < w.heap.size ∧ w.cell? ⟨g, o + i, none⟩ = some (.string (bs l[i]))
theorem HasS.ext_to {S S' : Nat → Prop} {w w' : World} {p : Option Addr} {l : List (List UInt8)} (h : HasS S w p l) (hS : ∀ b, S b → S' b) (hw : ∀ b, S b → b < w.heap.size → w'.heap[b]? = w.heap[b]?) : HasS S' w' p l := by
  intro i hi
  obtain ⟨g, o, h1, h2, h3, h4⟩ := h i hi
  have hb := hw g h2 h3
  refine ⟨g, o, h1, hS g h2, ?_, ?_⟩
  · rcases Nat.lt_or_ge g w'.heap.size with h' | h'
    · exact h'
    · rw [Array.getElem?_eq_none h', Array.getElem?_eq_getElem h3] at hb
      cases hb
  · rw [← h4]
    unfold World.cell?
    simp only [hb]
theorem HasS.ext {S : Nat → Prop} {w w' : World} {p : Option Addr} {l : List (List UInt8)} (h : HasS S w p l) (hb : Below w.heap.size w w') : HasS S w' p l := h.ext_to (fun _ h => h) (fun b _ hlt => hb.block b hlt)
end Go.Proofs.YthcojmpigdojoaaDoor
