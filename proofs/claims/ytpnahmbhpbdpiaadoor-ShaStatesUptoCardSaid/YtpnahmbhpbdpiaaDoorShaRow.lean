/- A state among a row's arguments; the table of constants out of the row's list; bulk. No conditions. -/
import Derived.Test.YtpnahmbhpbdpiaaDoorRow
import Derived.Test.YtpnahmbhpbdpiaaDoorShaTop
import Derived.Test.YtpnahmbhpbdpiaaDoorCards
import Derived.Test.YtpnahmbhpbdpiaaDoorTie
import Derived.Deep.DeepHandedRow
import Derived.Lib.LaidTab
import Derived.SliceStrings
set_option linter.unusedVariables false
set_option linter.unusedSimpArgs false
namespace Go.Proofs.YtpnahmbhpbdpiaaDoor
open Go Go.RowKit Go.ChangeShapes Go.WideShapes Go.ChangeAt
set_option maxRecDepth 100000

theorem laidOutP : laidOutB Tryd.prog = true := by kernel_rfl
theorem ownP : ownKnob Tryd.prog.godebug = none := by kernel_rfl
section
variable {H : Type} {enc : TypeId × Value → H}
theorem open_sha {r : Reach} {b0 base : Nat} {sp : Nat → Bool} {held : Bool} {w : World} {v : Value} {d : DataW H} {ps : List MemPlace} (hv : Value.okWide Tryd.prog w r b0 29 v) (h : DataW.Trod enc Tryd.prog w base sp held 29 v d ps) :
    ∃ (hs : List Int) (n : Int) (r : ByteArray) (d0 d1 : DataW H), v = shaV hs n r ∧ hs.length = 8 ∧ 0 ≤ n ∧ n < 18446744073709551616 ∧ r.size ≤ maxLen ∧ d = .agg [d0, d1, .lit (.string r.data.toList)] := by
  have hu : Tryd.prog.underlying 29 = some (.struct (Tryd.prog.fieldsOf 29)) := by kernel_rfl
  have hf : (Tryd.prog.fieldsOf 29).toList.map (fun f => (f.type, f.offset)) = [(26, 0), (27, 8), (9, 9)] := by kernel_rfl
  have hfs : (Tryd.prog.fieldsOf 29).size = 3 := by kernel_rfl
  obtain ⟨cs, rfl, hsz⟩ := okWide_struct hu hv
  obtain ⟨c0, c1, c2, c3, c4, c5, c6, c7, c8, c9, rfl⟩ := array10 (hsz.trans (by kernel_rfl))
  obtain ⟨fuel, hf1⟩ := h
  obtain ⟨xs, n, _, hx, _, hl, hall⟩ := DataW.trod_struct hu hf1
  have at_ : ∀ (i : Nat) (t : TypeId) (o : Nat), [(26, 0), (27, 8), (9, 9)][i]? = some (t, o) → DataW.trod enc Tryd.prog w base sp held n t (([c0, c1, c2, c3, c4, c5, c6, c7, c8, c9].drop o).take (Tryd.prog.cellsOf t)) = xs[i]? := by
    intro i t o hi
    rw [← hf, List.getElem?_map, Option.map_eq_some_iff] at hi
    obtain ⟨f, hfi, he⟩ := hi
    rw [Array.getElem?_toList] at hfi
    have := hall i f hfi
    simp only [Prod.mk.injEq] at he
    rw [he.1, he.2] at this
    exact this
  have a0 := at_ 0 26 0 rfl
  have a1 := at_ 1 27 8 rfl
  have a2 := at_ 2 9 9 rfl
  match xs, hl.trans hfs with
  | [x0, x1, x2], _ =>
    obtain ⟨m, hc, he, hwf⟩ := DataW.trod_int (k := .u64) Tryd.underlying27 a1
    obtain ⟨s, hcs, hes, hms⟩ := DataW.trod_string Tryd.underlying9 a2
    obtain ⟨ys, m2, _, hy, _, hyl, hya⟩ := DataW.trod_array Tryd.underlying26 a0
    have k1 : Tryd.prog.cellsOf 27 = 1 := by kernel_rfl
    have k2 : Tryd.prog.cellsOf 9 = 1 := by kernel_rfl
    have k3 : Tryd.prog.cellsOf 25 = 1 := by kernel_rfl
    have k4 : Tryd.prog.cellsOf 26 = 8 := by kernel_rfl
    rw [k1] at hc
    rw [k2] at hcs
    simp [Value.cells] at hc hcs
    subst hc
    subst hcs
    have el : ∀ i c, i < 8 → [c0, c1, c2, c3, c4, c5, c6, c7][i]? = some c → ∃ z : Int, c = .int .u32 z := by
      intro i c hi hci
      have h2 := hya i hi
      obtain ⟨y, hyi⟩ : ∃ y, ys[i]? = some y := ⟨_, List.getElem?_eq_getElem (by omega)⟩
      rw [hyi] at h2
      obtain ⟨z, hz, _, _⟩ := DataW.trod_int (k := .u32) Tryd.underlying25 h2
      refine ⟨z, ?_⟩
      rw [k3, k4] at hz
      have h3 := congrArg (fun l => l[0]?) hz
      simp only [List.getElem?_take, List.getElem?_drop, Value.cells] at h3
      have h4 : [c0, c1, c2, c3, c4, c5, c6, c7, Value.int IntKind.u64 m, Value.string s][i]? = some c := by
        rw [← hci]
        match i, hi with
        | 0, _ | 1, _ | 2, _ | 3, _ | 4, _ | 5, _ | 6, _ | 7, _ => rfl
      simp [hi] at h3
      rw [h4] at h3
      simpa using h3
    obtain ⟨z0, rfl⟩ := el 0 c0 (by omega) rfl
    obtain ⟨z1, rfl⟩ := el 1 c1 (by omega) rfl
    obtain ⟨z2, rfl⟩ := el 2 c2 (by omega) rfl
    obtain ⟨z3, rfl⟩ := el 3 c3 (by omega) rfl
    obtain ⟨z4, rfl⟩ := el 4 c4 (by omega) rfl
    obtain ⟨z5, rfl⟩ := el 5 c5 (by omega) rfl
    obtain ⟨z6, rfl⟩ := el 6 c6 (by omega) rfl
    obtain ⟨z7, rfl⟩ := el 7 c7 (by omega) rfl
    have hwf' : 0 ≤ m ∧ m ≤ 18446744073709551615 := by
      have e1 : IntKind.u64.min = 0 := rfl
      have e2 : IntKind.u64.max = 18446744073709551615 := rfl
      simpa [Lit.wf, e1, e2] using hwf
    refine ⟨[z0, z1, z2, z3, z4, z5, z6, z7], m, s, x0.1, x1.1, rfl, rfl, hwf'.1, by omega, hms, ?_⟩
    simp only [Prod.mk.injEq] at hx
    rw [hx.1]
    simp only [List.map_cons, List.map_nil]
    rw [hes]
end
theorem gK : Tryd.prog.globalNamed "codicil/sha.constants" = some 0 := by kernel_rfl
theorem gKt : (Tryd.prog.globals[0]?).map (·.type) = some 57 := by kernel_rfl
theorem laid_is (H : Type) : Rows.laid_codicil_sha_constants (H := H) = Lib.tabData .u32 kTab := rfl
theorem ks_of {W : World} (h : laidMetH Tryd.prog [("codicil/sha.constants", Rows.laid_codicil_sha_constants)] W) : Ks W := by
  have h1 : Lib.TabIs Tryd.prog W "codicil/sha.constants" .u32 kTab := by
    refine Lib.tabIs_of_head (rest := []) gK gKt Tryd.underlying57 Tryd.underlying25 (by kernel_rfl) (by kernel_rfl) ?_
    exact h
  unfold Lib.TabIs World.var? at h1
  rw [gK] at h1
  simp only [Option.bind_some] at h1
  split at h1
  · rename_i cs t f hh
    refine ⟨t, f, ?_⟩
    rw [hh]
    have := Option.some.inj h1
    rw [this]
    rfl
  · cases h1
theorem cell_lt {w : World} {a : Addr} {v : Value} (h : w.cell? a = some v) : a.block < w.heap.size := by
  rcases Nat.lt_or_ge a.block w.heap.size with h1 | h1
  · exact h1
  · exfalso
    unfold World.cell? at h
    rw [Array.getElem?_eq_none h1] at h
    simp at h
section
variable {H : Type} {enc : TypeId × Value → H}
theorem bulk_strs (ss : List ByteArray) : Rows.uptoBulkAll (strs (H := H) ss) = ss.length + (ss.flatMap fun s => s.data.toList).length := by
  induction ss with
  | nil => rfl
  | cons s ss ih =>
    show Rows.uptoBulkAll (DataW.lit (.string s.data.toList) :: strs ss) = _
    rw [Rows.uptoBulkAll, Rows.uptoBulk, ih]
    simp only [List.length_cons, List.flatMap_cons, List.length_append]
    omega
/-- A slice of texts, opened. -/
theorem open_texts {r : Reach} {b0 base : Nat} {sp : Nat → Bool} {held : Bool} {w : World} {v : Value} {d : DataW H} {ps : List MemPlace} (hv : Value.okWide Tryd.prog w r b0 37 v) (h : DataW.Trod enc Tryd.prog w base sp held 37 v d ps) :
    ∃ (p : Option Addr) (cap : Nat) (ss : List ByteArray), v = .slice p ss.length cap ∧ ss.length + (ss.flatMap fun s => s.data.toList).length ≤ Rows.uptoBulk d ∧
      ∀ k, k < ss.length → ∃ b o, p = some ⟨b, o, none⟩ ∧ b < w.heap.size ∧ w.cell? ⟨b, o + k, none⟩ = some (.string (ss[k]?.getD ByteArray.empty)) := by
  obtain ⟨a0, len, cap, rfl⟩ := okWide_slice Tryd.underlying37 hv
  obtain ⟨fuel, hf⟩ := h
  rcases open_strings Tryd.underlying37 Tryd.underlying9 (by kernel_rfl) hf with ⟨hcs, hx⟩ | ⟨a, len', cap', ss, hcs, _, hl, hm, hlen, hx, hcell, hmx⟩
  · simp [Value.cells] at hcs
    obtain ⟨rfl, rfl, rfl⟩ := hcs
    simp only [Prod.mk.injEq] at hx
    obtain ⟨rfl, rfl⟩ := hx
    exact ⟨none, 0, [], rfl, by simp, fun k hk => by simp at hk⟩
  · simp [Value.cells] at hcs
    obtain ⟨rfl, rfl, rfl⟩ := hcs
    simp only [Prod.mk.injEq] at hx
    obtain ⟨rfl, rfl⟩ := hx
    have hsl : len ≤ ss.length := by rw [hlen]; split <;> omega
    have htl : (ss.take len).length = len := by rw [List.length_take]; omega
    refine ⟨some a, cap, ss.take len, by rw [htl], ?_, ?_⟩
    · rw [Rows.uptoBulk, bulk_strs]
      omega
    · intro k hk
      rw [htl] at hk
      have h1 := hcell k (by omega)
      have h00 := hcell 0 (by omega)
      obtain ⟨b, off, spot⟩ := a
      have hspot : spot = none := by simpa [Addr.add] using World.cell?_spot h00
      subst hspot
      refine ⟨b, off, rfl, by simpa [Addr.add] using cell_lt h00, ?_⟩
      rw [← Go.WideShapes.add_plain, h1, List.getElem?_take_of_lt hk, List.getD_eq_getElem?_getD]
end
end Go.Proofs.YtpnahmbhpbdpiaaDoor
