/- Words for worlds: a class of worlds that grew out of one; blocks that are known whole. No conditions. -/
import Derived.Test.YthcojmpigdojoaaDoorMix
import Derived.Lib.Hide
set_option linter.unusedVariables false
set_option linter.unusedSimpArgs false
namespace Go.Proofs.YthcojmpigdojoaaDoor
open Go Go.RowKit

open Classical in
/-- Any world that grew out of w: x, if it did, else w itself. -/
noncomputable def ext (w x : World) : World := if Below w.heap.size w x then x else w
theorem ext_below (w x : World) : Below w.heap.size w (ext w x) := by
  unfold ext
  split
  · assumption
  · exact Below.refl _ _
theorem ext_of {w x : World} (h : Below w.heap.size w x) : x = ext w x := by
  unfold ext
  rw [if_pos h]
def Cls (w : World) : World → Prop := fun w' => ∃ x, w' = ext w x
theorem Cls_def (w : World) : Cls w = fun w' => ∃ x, w' = ext w x := rfl
theorem Cls.of {w x : World} (h : Below w.heap.size w x) : Cls w x := ⟨x, ext_of h⟩
theorem Cls.below {w x : World} (h : Cls w x) : Below w.heap.size w x := by
  obtain ⟨y, rfl⟩ := h
  exact ext_below w y
theorem Cls.self (w : World) : Cls w w := .of (Below.refl _ _)
theorem Cls.drew (w : World) : Cls w { w with drawn := w.drawn + 1 } := .of ((Below.refl _ _).drew)
theorem below_ext {a b c : World} (h : Below a.heap.size a b) (k : Below b.heap.size b c) : Below a.heap.size a c :=
  h.trans (k.mono h.size)
theorem Cls.trans {w x y : World} (h : Cls w x) (k : Below x.heap.size x y) : Cls w y := .of (below_ext h.below k)
theorem Cls.sub {w x : World} (h : Cls w x) (y : World) (k : Cls x y) : Cls w y := h.trans k.below
@[go_sem] theorem ext_cell (w x : World) (b o : Nat) (h : b < w.heap.size) : (ext w x).cell? ⟨b, o, none⟩ = w.cell? ⟨b, o, none⟩ := (ext_below w x).cell (p := ⟨b, o, none⟩) h
@[go_sem] theorem ext_frozen (w x : World) (b o : Nat) (h : b < w.heap.size) : (ext w x).frozen? ⟨b, o, none⟩ = w.frozen? ⟨b, o, none⟩ := (ext_below w x).frozen (p := ⟨b, o, none⟩) h
theorem ext_block (w x : World) (b : Nat) (h : b < w.heap.size) : (ext w x).heap[b]? = w.heap[b]? := (ext_below w x).block b h
theorem ext_size (w x : World) : w.heap.size ≤ (ext w x).heap.size := (ext_below w x).size

/-- Block g is just these cells, of elements of type t, none of them frozen. -/
def IsBlk (w : World) (g : Nat) (cs : Array Value) (t : TypeId) : Prop := w.heap[g]? = some (.cells cs t (0, 0))
section
variable {w w' : World} {g : Nat} {cs : Array Value} {t : TypeId}
theorem IsBlk.cell (h : IsBlk w g cs t) {i : Nat} {v : Value} (hv : cs[i]? = some v) : w.cell? ⟨g, i, none⟩ = some v := by
  unfold IsBlk at h; simp [World.cell?, h, hv]
theorem IsBlk.add (h : IsBlk w g cs t) {o j : Nat} {v : Value} (hv : cs[o + j]? = some v) : w.cell? ((⟨g, o, none⟩ : Addr).add j) = some v := by
  have e : ((⟨g, o, none⟩ : Addr).add j) = ⟨g, o + j, none⟩ := by
    unfold Addr.add
    split
    · rename_i hj; subst hj; rfl
    · rfl
  rw [e]
  exact h.cell hv
theorem IsBlk.frozen (h : IsBlk w g cs t) (i : Nat) : w.frozen? ⟨g, i, none⟩ = false := by
  unfold IsBlk at h; simp [World.frozen?, h]
theorem IsBlk.lt (h : IsBlk w g cs t) : g < w.heap.size := by
  unfold IsBlk at h
  rcases Nat.lt_or_ge g w.heap.size with h' | h'
  · exact h'
  · simp [Array.getElem?_eq_none h'] at h
theorem IsBlk.set (h : IsBlk w g cs t) (i : Nat) (v : Value) : IsBlk (w.setCell ⟨g, i, none⟩ v) g (cs.setIfInBounds i v) t := by
  have hlt := h.lt
  have h' : w.heap[g] = .cells cs t (0, 0) := by simpa [IsBlk, Array.getElem?_eq_getElem hlt] using h
  show (w.heap.modify g _)[g]? = _
  rw [Array.getElem?_eq_getElem (by simpa using hlt), Array.getElem_modify_self, h']
  rfl
theorem IsBlk.set_other (h : IsBlk w g cs t) {a : Addr} (ha : a.block ≠ g) (v : Value) : IsBlk (w.setCell a v) g cs t := by
  unfold IsBlk
  rw [Below.heap_setCell _ _ _ _ (Ne.symm ha)]
  exact h
theorem IsBlk.drew (h : IsBlk w g cs t) : IsBlk w.drew g cs t := h
theorem IsBlk.drewN (h : IsBlk w g cs t) (n : Nat) : IsBlk (w.drewN n) g cs t := h
theorem IsBlk.below (h : IsBlk w g cs t) {B : Nat} (hb : Below B w w') (hg : g < B) : IsBlk w' g cs t := (hb.block g hg).trans h
theorem IsBlk.ext (h : IsBlk w g cs t) (hb : Below w.heap.size w w') : IsBlk w' g cs t := h.below hb h.lt
theorem IsBlk.alloc (h : IsBlk w g cs t) (o : Obj) : IsBlk (w.alloc o) g cs t := h.below ((Below.refl w.heap.size w).alloc (Nat.le_refl _) o) h.lt
theorem IsBlk.new_at {k : Nat} (hk : k = w.heap.size) : IsBlk (w.alloc (.cells cs t)) k cs t := by
  subst hk
  show (w.heap.push _)[w.heap.size]? = _
  simp
theorem IsBlk.new (w : World) (cs : Array Value) (t : TypeId) : IsBlk (w.alloc (.cells cs t)) w.heap.size cs t := by
  show (w.heap.push _)[w.heap.size]? = _
  simp
end
end Go.Proofs.YthcojmpigdojoaaDoor
