/- Regions that draw their order, at a world that is known outright; a class that lets bytes be pushed. No conditions. -/
import Derived.Test.YtghkeilgdmnnlaaDoorBinNum
set_option linter.unusedVariables false
set_option linter.unusedSimpArgs false
namespace Go.Proofs.YtghkeilgdmnnlaaDoor
open Go Go.RowKit

section
variable {P : Program} {ops : Array Oper} {T : List Nat} {C : World → Prop} {Q : Exit → Act → World → Prop}
/-! The same at a world that is known outright: the class serves the floating operations alone. -/
def mixW (P : Program) (ops : Array Oper) (T : List Nat) (C : World → Prop) (Q : Exit → Act → World → Prop) (fuel : Nat) (listed : Array Bool) (a : Act) (w : World) : Prop := anyK P ops T C Q fuel listed a w
def ThenW (P : Program) (ops : Array Oper) (T : List Nat) (C : World → Prop) (Q : Exit → Act → World → Prop) (fuel : Nat) (listed : Array Bool) (a : Act) (w : World) : Prop := C w ∧ mixW P ops T C Q fuel listed a w
theorem ThenW.mk {fuel : Nat} {listed : Array Bool} {a : Act} {w : World} (hw : C w) (h : C w → mixW P ops T C Q fuel listed a w) : ThenW P ops T C Q fuel listed a w := ⟨hw, h hw⟩
theorem mixW_flt0 (hs : Region.noSelect ops = true) : ∀ (l : List Nat) (fuel : Nat) (listed : Array Bool) (a : Act) (w : World), C w → Closed ops listed → fltB ops T l listed = true →
    wpQuiet P ops C (fun a' => mixW P ops T C Q fuel (listAll l listed) a' w) (opsAt ops l) a → mixW P ops T C Q (l.length + fuel) listed a w
  | [], fuel, listed, a, w, _, _, _, h => by
    rw [show ([] : List Nat).length + fuel = fuel by simp]
    exact h
  | i :: l, fuel, listed, a, w, hw, hcl, hB, h => by
    simp only [fltB, Bool.and_eq_true] at hB
    obtain ⟨⟨⟨⟨hr, hf⟩, ht⟩, hp⟩, hB'⟩ := hB
    cases ho : ops[i]? with
    | none => rw [ho] at hp; cases hp
    | some o =>
      rw [ho] at hp
      have hl : opsAt ops (i :: l) = o :: opsAt ops l := opsAt_cons ho
      rw [hl] at h
      obtain ⟨v, hy, hK⟩ := flt_of_quiet ho (by simpa using hp) (wpQuiet_split h)
      have hm := mixW_flt0 hs l fuel (listed.setIfInBounds i true) (a.put o.dst v) w hw (hcl.set (by simpa using hr)) hB' hK
      have := anyK_first (T := T) (C := C) (Q := Q) ho (Region.noSelect_spec hs) (tailsB_spec ht) (l.length + fuel) listed a w hw hcl (Region.free_spec ho hf) (by simpa using hr) hy hm
      rw [show (i :: l).length + fuel = l.length + fuel + 1 by simp; omega]
      exact this
theorem mixW_flt (hs : Region.noSelect ops = true) (l : List Nat) (fuel : Nat) (listed : Array Bool) (a : Act) {w : World} (hw : C w) (hB : (closedB ops listed && fltB ops T l listed) = true)
    (h : wpQuiet P ops C (fun a' => mixW P ops T C Q fuel (listAll l listed) a' w) (opsAt ops l) a) : mixW P ops T C Q (l.length + fuel) listed a w := by
  simp only [Bool.and_eq_true] at hB
  exact mixW_flt0 hs l fuel listed a w hw (closedB_spec hB.1) hB.2 h
theorem mixW_ch {i : Nat} {fuel : Nat} {listed : Array Bool} {a : Act} {w : World} (hr : Region.ready .any ops listed = [i]) (o : Oper) (ho : ops[i]? = some o)
    (h : wpList P ops (Exit.then (ThenW P ops T C Q fuel (listed.setIfInBounds i true)) (Calm Q)) [o] a w) : mixW P ops T C Q (fuel + 1) listed a w := by
  refine ⟨fun h0 => (by rw [h0] at hr; cases hr), fun j hj => ?_⟩
  rw [hr] at hj
  obtain rfl : j = i := by simpa using hj
  exact wpOp_mono (fun a' w' hk => ⟨.inr hk.1, hk.2⟩) (wpOp_of_list ho h)
theorem mixW_chL {i : Nat} {fuel : Nat} {listed : Array Bool} {a : Act} {w : World} (hr : Region.ready .any ops listed = [i]) (hi : (ops[i]?).isSome = true)
    (h : wpList P ops (Exit.then (ThenW P ops T C Q fuel (listed.setIfInBounds i true)) (Calm Q)) (opsAt ops [i]) a w) : mixW P ops T C Q (fuel + 1) listed a w := by
  obtain ⟨o, ho⟩ := Option.isSome_iff_exists.1 hi
  rw [opsAt_cons ho] at h
  exact mixW_ch hr o ho h
theorem mixW_end (l : List Nat) {listed : Array Bool} {a : Act} {w : World} (hB : tailB ops T l listed = true) (h : wpList P ops (Calm Q) (opsAt ops l) a w) : mixW P ops T C Q l.length listed a w :=
  anyK_tail l listed a w hB h
theorem mixW_start {id : Nat} {a : Act} {w : World} (T : List Nat) (C : World → Prop) (hm : P.follows .mixedOrders = true) (hC : C { w with drawn := w.drawn + 1 })
    (h : C { w with drawn := w.drawn + 1 } → mixW P ops T C Q ops.size (Array.replicate ops.size false) a { w with drawn := w.drawn + 1 }) : (Code.region id ops true).wp P Q a w :=
  wp_region_any hm (wpAny_of_anyK _ _ _ _ (h hC))
end
/-- All old blocks but those of bytes are as they were. -/
def KeptA (w w' : World) : Prop := w.heap.size ≤ w'.heap.size ∧ ∀ b, b < w.heap.size → (∀ cs fr, w.heap[b]? ≠ some (.cells cs 5 fr)) → w'.heap[b]? = w.heap[b]?
theorem KeptA.refl (w : World) : KeptA w w := ⟨Nat.le_refl _, fun _ _ _ => rfl⟩
theorem KeptA.trans {a b c : World} (h : KeptA a b) (k : KeptA b c) : KeptA a c :=
  ⟨Nat.le_trans h.1 k.1, fun i hi ht => by
    have e := h.2 i hi ht
    rw [k.2 i (Nat.lt_of_lt_of_le hi h.1) (by rw [e]; exact ht), e]⟩
theorem KeptA.of_below {w w' : World} (h : Below w.heap.size w w') : KeptA w w' := ⟨h.size, fun b hb _ => h.block b hb⟩
theorem KeptA.grown {B : Nat} {v : Value} {n : Nat} {xs : List Value} {w w3 : World} (hown : w.ownsRow B 5 1 v n xs) (hg : w.grownBy w3 v.ownBlock) : KeptA w w3 := by
  refine ⟨hg.size, fun b hb ht => hg.block b hb (fun e => ?_)⟩
  rcases hown.2 with ⟨rfl, _⟩ | ⟨g', cap, cur, rfl, _, hg', _⟩
  · cases e
  · have : g' = b := by
      have e2 : some b = some g' := e
      exact (Option.some.inj e2).symm
    subst this
    exact ht _ _ hg'
open Classical in
noncomputable def extT (w x : World) : World := if KeptA w x then x else w
theorem extT_kept (w x : World) : KeptA w (extT w x) := by
  unfold extT
  split
  · assumption
  · exact KeptA.refl _
theorem extT_of {w x : World} (h : KeptA w x) : x = extT w x := by
  unfold extT
  rw [if_pos h]
def ClsT (w : World) : World → Prop := fun w' => ∃ x, w' = extT w x
theorem ClsT_def (w : World) : ClsT w = fun w' => ∃ x, w' = extT w x := rfl
theorem ClsT.of {w x : World} (h : KeptA w x) : ClsT w x := ⟨x, extT_of h⟩
theorem ClsT.kept {w x : World} (h : ClsT w x) : KeptA w x := by
  obtain ⟨y, rfl⟩ := h
  exact extT_kept w y
theorem ClsT.drew (w : World) : ClsT w { w with drawn := w.drawn + 1 } := .of ⟨Nat.le_refl _, fun _ _ _ => rfl⟩
theorem ClsT.trans {w x y : World} (h : ClsT w x) (k : KeptA x y) : ClsT w y := .of (h.kept.trans k)
/-- A block that is there and is none of bytes. -/
def Nu8 (w : World) (b : Nat) : Prop := b < w.heap.size ∧ ∀ cs fr, w.heap[b]? ≠ some (.cells cs 5 fr)
theorem Nu8.of {w : World} {b : Nat} {cs : Array Value} {t : TypeId} (h : IsBlk w b cs t) (ht : t ≠ 5) : Nu8 w b := ⟨h.lt, fun cs' fr e => by
    have e2 := (show w.heap[b]? = some (.cells cs t (0, 0)) from h).symm.trans e
    simp only [Option.some.injEq, Obj.cells.injEq] at e2
    exact ht e2.2.1⟩
@[go_sem] theorem extT_cell (w x : World) (b o : Nat) (h : Nu8 w b) : (extT w x).cell? ⟨b, o, none⟩ = w.cell? ⟨b, o, none⟩ := by
  unfold World.cell?
  rw [(extT_kept w x).2 b h.1 h.2]
@[go_sem] theorem extT_frozen (w x : World) (b o : Nat) (h : Nu8 w b) : (extT w x).frozen? ⟨b, o, none⟩ = w.frozen? ⟨b, o, none⟩ := by
  unfold World.frozen?
  rw [(extT_kept w x).2 b h.1 h.2]
end Go.Proofs.YtghkeilgdmnnlaaDoor
