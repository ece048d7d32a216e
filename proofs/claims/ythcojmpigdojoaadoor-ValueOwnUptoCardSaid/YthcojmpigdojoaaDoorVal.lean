/- Values as a plain type; what memory says of one. No conditions. -/
import Derived.Test.YthcojmpigdojoaaDoorBytes
set_option linter.unusedVariables false
set_option linter.unusedSimpArgs false
namespace Go.Proofs.YthcojmpigdojoaaDoor
open Go Go.RowKit

/-- A value: its kind, B, N, S, List, Fields. -/
inductive DVal where
  | mk (k : Nat) (b : Bool) (n : Int) (s : List UInt8) (l : List DVal) (f : List (List UInt8 × DVal))
def DVal.zero : DVal := .mk 0 false 0 [] [] []
theorem DVal.size_l {k b n s l f} (v : DVal) (h : v ∈ l) : SizeOf.sizeOf v < SizeOf.sizeOf (DVal.mk k b n s l f) := by
  have := List.sizeOf_lt_of_mem h
  simp
  omega
theorem DVal.size_f {k b n s l f} (x : List UInt8 × DVal) (h : x ∈ f) : SizeOf.sizeOf x.2 < SizeOf.sizeOf (DVal.mk k b n s l f) := by
  have := List.sizeOf_lt_of_mem h
  obtain ⟨a, b⟩ := x
  simp at *
  omega
/-- Where cells lie, and that the block is one of S. -/
def CellsAt (S : Nat → Prop) (w : World) (g o : Nat) (cs : List Value) : Prop := S g ∧ g < w.heap.size ∧ ∀ j, j < cs.length → w.cell? ⟨g, o + j, none⟩ = cs[j]?
/-- A value's cells in memory; S holds of each block that is reached. -/
def HasVal (S : Nat → Prop) (w : World) : DVal → List Value → Prop
  | .mk k b n s l f, cs => ∃ pl cl pf cf, cs = [.int .u8 (k : Int), .bool b, .int .i64 n, .string (bs s), .slice pl l.length cl, .slice pf f.length cf] ∧
      (k < 256 ∧ -9223372036854775808 ≤ n ∧ n ≤ 9223372036854775807 ∧ s.length ≤ 1073741824 ∧ l.length ≤ 1073741824 ∧ f.length ≤ 1073741824 ∧ l.length ≤ cl ∧ cl ≤ maxLen ∧ f.length ≤ cf ∧ cf ≤ maxLen) ∧
      (∀ i (h : i < l.length), ∃ g o cs, pl = some ⟨g, o, none⟩ ∧ CellsAt S w g (o + i * 6) cs ∧ HasVal S w l[i] cs) ∧
      (∀ i (h : i < f.length), ∃ g o cs, pf = some ⟨g, o, none⟩ ∧ (f[i].1.length ≤ 1073741824 ∧ CellsAt S w g (o + i * 7) (.string (bs f[i].1) :: cs)) ∧ HasVal S w f[i].2 cs)
termination_by v => SizeOf.sizeOf v
decreasing_by
  · exact DVal.size_l _ (List.getElem_mem _)
  · exact DVal.size_f _ (List.getElem_mem _)
/-- The cells of a list's parts. -/
def HasL (S : Nat → Prop) (w : World) (p : Option Addr) (l : List DVal) : Prop := ∀ i (h : i < l.length), ∃ g o cs, p = some ⟨g, o, none⟩ ∧ CellsAt S w g (o + i * 6) cs ∧ HasVal S w l[i] cs
def HasF (S : Nat → Prop) (w : World) (p : Option Addr) (f : List (List UInt8 × DVal)) : Prop := ∀ i (h : i < f.length), ∃ g o cs, p = some ⟨g, o, none⟩ ∧ (f[i].1.length ≤ 1073741824 ∧ CellsAt S w g (o + i * 7) (.string (bs f[i].1) :: cs)) ∧ HasVal S w f[i].2 cs
theorem hasVal_mk {S : Nat → Prop} {w : World} {k : Nat} {b : Bool} {n : Int} {s : List UInt8} {l : List DVal} {f : List (List UInt8 × DVal)} {cs : List Value} :
    HasVal S w (.mk k b n s l f) cs ↔ ∃ pl cl pf cf, cs = [.int .u8 (k : Int), .bool b, .int .i64 n, .string (bs s), .slice pl l.length cl, .slice pf f.length cf] ∧
      (k < 256 ∧ -9223372036854775808 ≤ n ∧ n ≤ 9223372036854775807 ∧ s.length ≤ 1073741824 ∧ l.length ≤ 1073741824 ∧ f.length ≤ 1073741824 ∧ l.length ≤ cl ∧ cl ≤ maxLen ∧ f.length ≤ cf ∧ cf ≤ maxLen) ∧ HasL S w pl l ∧ HasF S w pf f := by
  rw [HasVal]
  rfl
theorem HasVal.len {S : Nat → Prop} {w : World} {v : DVal} {cs : List Value} (h : HasVal S w v cs) : cs.length = 6 := by
  obtain ⟨k, b, n, s, l, f⟩ := v
  obtain ⟨_, _, _, _, rfl, _⟩ := hasVal_mk.1 h
  rfl
theorem CellsAt.kept {S S' : Nat → Prop} {w w' : World} {g o : Nat} {cs : List Value} (h : CellsAt S w g o cs) (hS : ∀ b, S b → S' b) (hw : ∀ b, S b → b < w.heap.size → w'.heap[b]? = w.heap[b]?) : CellsAt S' w' g o cs := by
  obtain ⟨h1, h2, h3⟩ := h
  have hb := hw g h1 h2
  refine ⟨hS g h1, ?_, fun j hj => ?_⟩
  · rcases Nat.lt_or_ge g w'.heap.size with h' | h'
    · exact h'
    · rw [Array.getElem?_eq_none h', Array.getElem?_eq_getElem h2] at hb
      cases hb
  · rw [← h3 j hj]
    unfold World.cell?
    simp only [hb]
/-- What lies in memory that is not turned lies there still. -/
theorem HasVal.kept {S S' : Nat → Prop} {w w' : World} (hS : ∀ b, S b → S' b) (hw : ∀ b, S b → b < w.heap.size → w'.heap[b]? = w.heap[b]?) : ∀ (m : Nat) (v : DVal) (cs : List Value), SizeOf.sizeOf v < m → HasVal S w v cs → HasVal S' w' v cs := by
  intro m
  induction m with
  | zero => intro v cs h; omega
  | succ m ih =>
    intro v cs hm h
    obtain ⟨k, b, n, s, l, f⟩ := v
    obtain ⟨pl, cl, pf, cf, rfl, hb, hl, hf⟩ := hasVal_mk.1 h
    refine hasVal_mk.2 ⟨pl, cl, pf, cf, rfl, hb, ?_, ?_⟩
    · intro i hi
      obtain ⟨g, o, cs, h1, h2, h3⟩ := hl i hi
      have hz := DVal.size_l (k := k) (b := b) (n := n) (s := s) (f := f) l[i] (List.getElem_mem _)
      exact ⟨g, o, cs, h1, h2.kept hS hw, ih _ _ (by omega) h3⟩
    · intro i hi
      obtain ⟨g, o, cs, h1, h2, h3⟩ := hf i hi
      have hz := DVal.size_f (k := k) (b := b) (n := n) (s := s) (l := l) f[i] (List.getElem_mem _)
      exact ⟨g, o, cs, h1, ⟨h2.1, h2.2.kept hS hw⟩, ih _ _ (by omega) h3⟩
theorem HasVal.ext {S : Nat → Prop} {w w' : World} {v : DVal} {cs : List Value} (h : HasVal S w v cs) (hb : Below w.heap.size w w') : HasVal S w' v cs :=
  HasVal.kept (fun _ h => h) (fun b _ hlt => hb.block b hlt) _ v cs (Nat.lt_succ_self _) h
theorem HasVal.ext_to {S S' : Nat → Prop} {w w' : World} {v : DVal} {cs : List Value} (h : HasVal S w v cs) (hS : ∀ b, S b → S' b) (hw : ∀ b, S b → b < w.heap.size → w'.heap[b]? = w.heap[b]?) : HasVal S' w' v cs :=
  HasVal.kept hS hw _ v cs (Nat.lt_succ_self _) h
theorem HasL.ext_to {S S' : Nat → Prop} {w w' : World} {p : Option Addr} {l : List DVal} (h : HasL S w p l) (hS : ∀ b, S b → S' b) (hw : ∀ b, S b → b < w.heap.size → w'.heap[b]? = w.heap[b]?) : HasL S' w' p l := by
  intro i hi
  obtain ⟨g, o, cs, h1, h2, h3⟩ := h i hi
  exact ⟨g, o, cs, h1, h2.kept hS hw, h3.ext_to hS hw⟩
theorem HasF.ext_to {S S' : Nat → Prop} {w w' : World} {p : Option Addr} {l : List (List UInt8 × DVal)} (h : HasF S w p l) (hS : ∀ b, S b → S' b) (hw : ∀ b, S b → b < w.heap.size → w'.heap[b]? = w.heap[b]?) : HasF S' w' p l := by
  intro i hi
  obtain ⟨g, o, cs, h1, h2, h3⟩ := h i hi
  exact ⟨g, o, cs, h1, ⟨h2.1, h2.2.kept hS hw⟩, h3.ext_to hS hw⟩
theorem HasL.ext {S : Nat → Prop} {w w' : World} {p : Option Addr} {l : List DVal} (h : HasL S w p l) (hb : Below w.heap.size w w') : HasL S w' p l := h.ext_to (fun _ h => h) (fun b _ hlt => hb.block b hlt)
theorem HasF.ext {S : Nat → Prop} {w w' : World} {p : Option Addr} {l : List (List UInt8 × DVal)} (h : HasF S w p l) (hb : Below w.heap.size w w') : HasF S w' p l := h.ext_to (fun _ h => h) (fun b _ hlt => hb.block b hlt)
/-- A part's cells, one by one. -/
theorem CellsAt.six {S : Nat → Prop} {w : World} {g o : Nat} {c0 c1 c2 c3 c4 c5 : Value} (h : CellsAt S w g o [c0, c1, c2, c3, c4, c5]) :
    w.cell? ⟨g, o, none⟩ = some c0 ∧ w.cell? ⟨g, o + 1, none⟩ = some c1 ∧ w.cell? ⟨g, o + 2, none⟩ = some c2 ∧ w.cell? ⟨g, o + 3, none⟩ = some c3 ∧ w.cell? ⟨g, o + 4, none⟩ = some c4 ∧ w.cell? ⟨g, o + 5, none⟩ = some c5 :=
  ⟨h.2.2 0 (by simp), h.2.2 1 (by simp), h.2.2 2 (by simp), h.2.2 3 (by simp), h.2.2 4 (by simp), h.2.2 5 (by simp)⟩
theorem CellsAt.seven {S : Nat → Prop} {w : World} {g o : Nat} {c0 c1 c2 c3 c4 c5 c6 : Value} (h : CellsAt S w g o [c0, c1, c2, c3, c4, c5, c6]) :
    w.cell? ⟨g, o, none⟩ = some c0 ∧ w.cell? ⟨g, o + 1, none⟩ = some c1 ∧ w.cell? ⟨g, o + 2, none⟩ = some c2 ∧ w.cell? ⟨g, o + 3, none⟩ = some c3 ∧ w.cell? ⟨g, o + 4, none⟩ = some c4 ∧ w.cell? ⟨g, o + 5, none⟩ = some c5 ∧ w.cell? ⟨g, o + 6, none⟩ = some c6 :=
  ⟨h.2.2 0 (by simp), h.2.2 1 (by simp), h.2.2 2 (by simp), h.2.2 3 (by simp), h.2.2 4 (by simp), h.2.2 5 (by simp), h.2.2 6 (by simp)⟩

/-! Plain functions of values. -/
mutual
def countV : DVal → Nat
  | .mk _ _ _ _ l f => 1 + countL l + countF f
def countL : List DVal → Nat
  | [] => 0
  | v :: l => countV v + countL l
def countF : List (List UInt8 × DVal) → Nat
  | [] => 0
  | (_, v) :: l => countV v + countF l
end
/-! How much a value is: its parts, and the bytes of its texts and names. -/
mutual
def bulkV : DVal → Nat
  | .mk _ _ _ s l f => s.length + bulkL l + bulkF f
def bulkL : List DVal → Nat
  | [] => 0
  | v :: l => 1 + bulkV v + bulkL l
def bulkF : List (List UInt8 × DVal) → Nat
  | [] => 0
  | (x, v) :: l => 1 + x.length + bulkV v + bulkF l
end
mutual
def sameV : DVal → DVal → Bool
  | .mk k b n s l f, .mk k' b' n' s' l' f' => k == k' && b == b' && n == n' && s == s' && sameL l l' && sameF f f'
def sameL : List DVal → List DVal → Bool
  | [], [] => true
  | a :: l, b :: m => sameV a b && sameL l m
  | _, _ => false
def sameF : List (List UInt8 × DVal) → List (List UInt8 × DVal) → Bool
  | [], [] => true
  | (x, a) :: l, (y, b) :: m => x == y && sameV a b && sameF l m
  | _, _ => false
end
mutual
theorem sameV_iff : ∀ a b, sameV a b = true ↔ a = b
  | .mk k b n s l f, .mk k' b' n' s' l' f' => by
    rw [sameV]
    simp [sameL_iff l l', sameF_iff f f', and_assoc]
theorem sameL_iff : ∀ a b, sameL a b = true ↔ a = b
  | [], [] => by simp [sameL]
  | a :: l, [] => by simp [sameL]
  | [], a :: l => by simp [sameL]
  | a :: l, b :: m => by simp [sameL, sameV_iff a b, sameL_iff l m]
theorem sameF_iff : ∀ a b, sameF a b = true ↔ a = b
  | [], [] => by simp [sameF]
  | a :: l, [] => by simp [sameF]
  | [], a :: l => by simp [sameF]
  | (x, a) :: l, (y, b) :: m => by simp [sameF, sameV_iff a b, sameF_iff l m]
end
theorem bulkL_get : ∀ (l : List DVal) (i : Nat) (h : i < l.length), bulkV l[i] < bulkL l
  | v :: l, 0, _ => by simp [bulkL]; omega
  | v :: l, i + 1, h => by
    have := bulkL_get l i (by simpa using h)
    simp [bulkL]; omega
theorem bulkF_get : ∀ (l : List (List UInt8 × DVal)) (i : Nat) (h : i < l.length), bulkV l[i].2 + l[i].1.length < bulkF l
  | (x, v) :: l, 0, _ => by simp [bulkF]; omega
  | (x, v) :: l, i + 1, h => by
    have := bulkF_get l i (by simpa using h)
    simp [bulkF]; omega
end Go.Proofs.YthcojmpigdojoaaDoor
