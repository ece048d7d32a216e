/- strconv.Atoi and strconv.Itoa as Get uses them: which place a text names. Conditions: the tables and the two errors read as the texts lay them. -/
import Derived.Test.YthcojmpigdojoaaDoorShelf
import Derived.Test.YthcojmpigdojoaaDoorStr
import Derived.Test.YthcojmpigdojoaaDoorPush
set_option linter.unusedVariables false
set_option linter.unusedSimpArgs false
namespace Go.Proofs.YthcojmpigdojoaaDoor
open Go Go.RowKit Go.BigFrame
set_option maxRecDepth 100000

/-- The two errors of strconv and the table of powers, as the texts lay them. -/
structure NumT (w : World) : Prop where
  e2 : ∃ te pe, w.cell? ⟨2, 0, none⟩ = some (.iface te pe)
  e3 : ∃ te pe, w.cell? ⟨3, 0, none⟩ = some (.iface te pe)
  p10 : Lib.TabIs Tryd.prog w "internal/strconv.uint64pow10" .u64 Lib.pow10Tab
  lt : 4 < w.heap.size
theorem cell_lt'' {w : World} {a : Addr} {v : Value} (h : w.cell? a = some v) : a.block < w.heap.size := by
  rcases Nat.lt_or_ge a.block w.heap.size with h1 | h1
  · exact h1
  · exfalso
    unfold World.cell? at h
    rw [Array.getElem?_eq_none h1] at h
    simp at h
theorem NumT.ext {w w' : World} (h : NumT w) (hb : Below w.heap.size w w') : NumT w' := by
  obtain ⟨⟨te, pe, h2⟩, ⟨te', pe', h3⟩, h4, h5⟩ := h
  refine ⟨⟨te, pe, (hb.cell (p := ⟨2, 0, none⟩) (cell_lt'' h2)).trans h2⟩, ⟨te', pe', (hb.cell (p := ⟨3, 0, none⟩) (cell_lt'' h3)).trans h3⟩, ?_, Nat.lt_of_lt_of_le h5 hb.size⟩
  have gB : Tryd.prog.globalNamed "internal/strconv.uint64pow10" = some 4 := by kernel_rfl
  unfold Lib.TabIs World.var? at h4 ⊢
  rw [gB] at h4 ⊢
  simp only [Option.bind_some] at h4 ⊢
  rw [hb.block _ h5]
  exact h4
/-- What Atoi makes of a text: the number; none: there is an error. -/
def atoiN (s : List UInt8) : Option Int := match Lib.atoiAll s with
  | .ok v => some v
  | _ => none
theorem atoi_any (s : List UInt8) (w : World) (hs : s.length ≤ 1099511627776) (hT : NumT w) :
    Calls Tryd.prog 34 #[.string (bs s)] w fun e' w' => Below w.heap.size w w' ∧ ((∃ v, atoiN s = some v ∧ e' = .returned (.tuple #[.int .i64 v, .nilIface])) ∨ (atoiN s = none ∧ ∃ v N t, e' = .returned (.tuple #[.int .i64 v, .iface t (.pointer (some ⟨N, 0, none⟩))]))) := by
  have hsz := bs_size s
  have htl : (bs s).data.toList = s := rfl
  obtain ⟨te, pe, h2⟩ := hT.e2
  obtain ⟨te', pe', h3⟩ := hT.e3
  have hbw : ∀ t, Below w.heap.size w (Lib.bytesWorld w 5 t) := fun t => ⟨rfl, rfl, rfl, by rw [Lib.bytesWorld_size]; omega, fun j hj => Lib.bytesWorld_at_old w 5 t j hj⟩
  cases h : Lib.atoiAll s with
  | ok v =>
    refine (Tryd.strconv_Atoi_ok (bs s) (by omega) v (by rw [htl]; exact h) w).mono ?_
    rintro e' w' ⟨rfl, hw⟩
    refine ⟨?_, .inl ⟨v, by unfold atoiN; rw [h], rfl⟩⟩
    rcases hw with rfl | ⟨t, rfl⟩
    · exact Below.refl _ _
    · exact hbw t
  | «syntax» =>
    refine (Tryd.strconv_Atoi_syntax (bs s) (by omega) (by rw [htl]; exact h) _ w h2 (.inr ⟨_, _, rfl⟩)).mono ?_
    rintro e' w' ⟨N, rfl, _, _, hb⟩
    exact ⟨hb, .inr ⟨by unfold atoiN; rw [h], _, _, _, rfl⟩⟩
  | range =>
    refine (Tryd.strconv_Atoi_range (bs s) (by omega) (by rw [htl]; exact h) _ w h3 (.inr ⟨_, _, rfl⟩)).mono ?_
    rintro e' w' ⟨N, rfl, _, _, hb⟩
    exact ⟨hb, .inr ⟨by unfold atoiN; rw [h], _, _, _, rfl⟩⟩
def itoaL (n : Int) : List UInt8 := Lib.itoa n
theorem itoa_any (n : Int) (h0 : -9223372036854775808 ≤ n) (h1 : n ≤ 9223372036854775807) (w : World) (hT : NumT w) :
    Calls Tryd.prog 35 #[.int .i64 n] w fun e' w' => e' = .returned (.string (bs (itoaL n))) ∧ Below w.heap.size w w' := by
  refine (Tryd.strconv_Itoa n h0 h1 w hT.p10).mono ?_
  rintro e' w' ⟨rfl, k, os, rfl⟩
  refine ⟨rfl, ⟨rfl, rfl, rfl, by show w.heap.size ≤ ((w.drewN k).heap ++ os).size; rw [Array.size_append]; exact Nat.le_add_right _ _, fun i hi => ?_⟩⟩
  show ((w.drewN k).heap ++ os)[i]? = _
  rw [Array.getElem?_append_left (by show i < w.heap.size; omega)]
  rfl
/-- The place that a text names among so many. -/
def placeN (s : List UInt8) (n : Nat) : Option Nat := match atoiN s with
  | some v => if 0 ≤ v ∧ v < (n : Int) ∧ itoaL v = s then some v.toNat else none
  | none => none
end Go.Proofs.YthcojmpigdojoaaDoor
