/- Peaks among a row's arguments, opened. No conditions. -/
import Derived.Test.YtfnlehnhcekpkaaDoorMkRow
set_option linter.unusedVariables false
set_option linter.unusedSimpArgs false
namespace Go.Proofs.YtfnlehnhcekpkaaDoor
open Go Go.RowKit Go.ChangeShapes Go.WideShapes Go.ChangeAt
set_option maxRecDepth 100000

theorem open_peaks {H : Type} {enc : TypeId × Value → H} {r : Reach} {b0 base : Nat} {sp : Nat → Bool} {held : Bool} {w : World} {v : Value} {d : DataW H} {ps : List MemPlace} (hv : Value.okWide Tryd.prog w r b0 24 v) (h : DataW.Trod enc Tryd.prog w base sp held 24 v d ps) :
    ∃ (c : Int) (p : Option Addr) (cap : Nat) (l : List (List UInt8)), v = .agg #[.int .i64 c, .slice p l.length cap] ∧ l.length ≤ cap ∧ (p = none → cap = 0) ∧ l.length ≤ Rows.uptoBulk d ∧ (∀ s ∈ l, s.length ≤ Rows.uptoBulk d) ∧ HasS (fun _ => True) w p l := by
  have hu : Tryd.prog.underlying 24 = some (.struct (Tryd.prog.fieldsOf 24)) := by kernel_rfl
  have hf : (Tryd.prog.fieldsOf 24).toList.map (fun f => (f.type, f.offset)) = [(3, 0), (22, 1)] := by kernel_rfl
  have hfs : (Tryd.prog.fieldsOf 24).size = 2 := by kernel_rfl
  obtain ⟨cs, rfl, hsz⟩ := okWide_struct hu hv
  obtain ⟨c0, c1, rfl⟩ : ∃ c0 c1, cs = #[c0, c1] := by
    have h2 := hsz.trans (show _ = 2 by kernel_rfl)
    obtain ⟨l⟩ := cs
    match l, h2 with
    | [c0, c1], _ => exact ⟨c0, c1, rfl⟩
  obtain ⟨fuel, hf1⟩ := h
  obtain ⟨xs, n, _, hx, _, hl, hall⟩ := DataW.trod_struct hu hf1
  have at_ : ∀ (i : Nat) (t : TypeId) (o : Nat), [(3, 0), (22, 1)][i]? = some (t, o) → DataW.trod enc Tryd.prog w base sp held n t (([c0, c1].drop o).take (Tryd.prog.cellsOf t)) = xs[i]? := by
    intro i t o hi
    rw [← hf, List.getElem?_map, Option.map_eq_some_iff] at hi
    obtain ⟨f, hfi, he⟩ := hi
    rw [Array.getElem?_toList] at hfi
    have := hall i f hfi
    simp only [Prod.mk.injEq] at he
    rw [he.1, he.2] at this
    exact this
  have a0 := at_ 0 3 0 rfl
  have a1 := at_ 1 22 1 rfl
  match xs, hl.trans hfs with
  | [x0, x1], _ =>
    obtain ⟨m, hc, he, hwf⟩ := DataW.trod_int (k := .i64) Tryd.underlying3 a0
    have k0 : Tryd.prog.cellsOf 3 = 1 := by kernel_rfl
    have k1 : Tryd.prog.cellsOf 22 = 1 := by kernel_rfl
    rw [k0] at hc
    rw [k1] at a1
    simp [Value.cells] at hc
    subst hc
    simp only [Prod.mk.injEq] at hx
    have hb : Rows.uptoBulk x1.1 ≤ Rows.uptoBulk d := by
      rw [hx.1]
      simp only [List.map_cons, List.map_nil, Rows.uptoBulk, Rows.uptoBulkAll]
      omega
    simp only [List.drop_succ_cons, List.drop_zero, List.take_succ_cons, List.take_zero] at a1
    rcases open_strings Tryd.underlying22 Tryd.underlying9 (by kernel_rfl) a1 with ⟨hcs, hx1⟩ | ⟨a, len, cap, ss, hcs, _, hl', hm, hlen, hx1, hcell, hmx⟩
    · simp at hcs
      subst hcs
      exact ⟨m, none, 0, [], rfl, Nat.le_refl _, (fun _ => rfl), Nat.zero_le _, (fun s hs => by cases hs), (fun k hk => by simp at hk)⟩
    · simp at hcs
      subst hcs
      have hsl : len ≤ ss.length := by rw [hlen]; split <;> omega
      have hbb : (ss.take len).length + ((ss.take len).flatMap fun s => s.data.toList).length ≤ Rows.uptoBulk d := by
        refine Nat.le_trans ?_ hb
        rw [hx1]
        show _ ≤ Rows.uptoBulk (DataW.slice (strs (ss.take len)) (strs (ss.drop len)))
        rw [Rows.uptoBulk, bulk_strs]
        omega
      have htl : (ss.take len).length = len := by rw [List.length_take]; omega
      rw [htl] at hbb
      refine ⟨m, some a, cap, (ss.take len).map fun s => s.data.toList, by rw [List.length_map, htl], by rw [List.length_map, htl]; exact hl', (fun h => by cases h), by rw [List.length_map, htl]; omega, fun s hs => ?_, fun k hk => ?_⟩
      · obtain ⟨t, ht, rfl⟩ := List.mem_map.1 hs
        have h1 := le_flat _ ht
        omega
      · rw [List.length_map, htl] at hk
        have h1 := hcell k (by omega)
        have h00 := hcell 0 (by omega)
        obtain ⟨b, off, spot⟩ := a
        have hspot : spot = none := by simpa [Addr.add] using World.cell?_spot h00
        subst hspot
        refine ⟨b, off, rfl, trivial, by simpa [Addr.add] using cell_lt h00, ?_⟩
        rw [← Go.WideShapes.add_plain, h1, List.getElem_map, bs_back, List.getElem_take, List.getD_eq_getElem?_getD, List.getElem?_eq_getElem (by omega)]
        rfl
end Go.Proofs.YtfnlehnhcekpkaaDoor
