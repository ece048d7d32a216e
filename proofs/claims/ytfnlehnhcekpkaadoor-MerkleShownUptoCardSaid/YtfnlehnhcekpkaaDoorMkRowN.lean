/- A slice of texts among a row's arguments, with what a nil one is. No conditions. -/
import Derived.Test.YtfnlehnhcekpkaaDoorMkRow
set_option linter.unusedVariables false
set_option linter.unusedSimpArgs false
namespace Go.Proofs.YtfnlehnhcekpkaaDoor
open Go Go.RowKit Go.ChangeShapes Go.WideShapes Go.ChangeAt
set_option maxRecDepth 100000

theorem open_strsN {H : Type} {enc : TypeId × Value → H} {r : Reach} {b0 base : Nat} {sp : Nat → Bool} {held : Bool} {w : World} {v : Value} {d : DataW H} {ps : List MemPlace} (hv : Value.okWide Tryd.prog w r b0 22 v) (h : DataW.Trod enc Tryd.prog w base sp held 22 v d ps) :
    ∃ (p : Option Addr) (cap : Nat) (l : List (List UInt8)), v = .slice p l.length cap ∧ l.length ≤ cap ∧ (p = none → cap = 0) ∧ l.length ≤ Rows.uptoBulk d ∧ (∀ s ∈ l, s.length ≤ Rows.uptoBulk d) ∧ HasS (fun _ => True) w p l := by
  obtain ⟨p, cap, l, rfl, h1, h2, h3, h4⟩ := open_strs hv h
  refine ⟨p, cap, l, rfl, h1, ?_, h2, h3, h4⟩
  rintro rfl
  obtain ⟨fuel, hf⟩ := h
  rcases open_strings Tryd.underlying22 Tryd.underlying9 (by kernel_rfl) hf with ⟨hcs, _⟩ | ⟨a, len', cap', ss, hcs, _⟩
  · simp [Value.cells] at hcs
    exact hcs.2
  · simp [Value.cells] at hcs
end Go.Proofs.YtfnlehnhcekpkaaDoor
