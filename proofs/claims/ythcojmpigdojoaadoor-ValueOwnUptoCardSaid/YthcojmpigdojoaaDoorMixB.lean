/- Regions that draw their order, at a world that is known outright: floating operations, operations that come alone, several that come in any order, a tail. No conditions. -/
import Derived.Test.YthcojmpigdojoaaDoorMix
set_option linter.unusedVariables false
set_option linter.unusedSimpArgs false
namespace Go.Proofs.YthcojmpigdojoaaDoor
open Go Go.RowKit

section
variable {P : Program} {ops : Array Oper} {T : List Nat} {C : World → Prop} {Q : Exit → Act → World → Prop}

def buildOp : Op → Bool
  | .build .. => true
  | _ => false
def plainOp2 (o : Op) : Bool := buildOp o || plainOp o
theorem plain_value2 {o : Oper} (hp : plainOp2 o.op = true) (ρ : Operand → Value) : AllV P (execOp ρ o) := by
  unfold plainOp2 at hp
  rcases Bool.or_eq_true_iff.1 hp with h | h
  · obtain ⟨dst, op, type, pos, after, guard⟩ := o
    cases op <;> simp only [buildOp, Bool.false_eq_true] at h
    simp only [execOp]
    exact allV_v _
  · exact plain_value h ρ
theorem flt_of_quiet2 {i : Nat} {o : Oper} {a : Act} {K : Act → Prop} (hi : ops[i]? = some o) (hp : plainOp2 o.op = true) (h : wpQuiet P ops C K [o] a) : ∃ v, Flt P ops C o v a ∧ K (a.put o.dst v) := by
  simp only [wpQuiet] at h
  by_cases hw : Region.wanted o (yielded ops a.tmps) = true
  · rw [if_pos hw] at h
    obtain ⟨v, h1, h2⟩ := h
    refine ⟨v, .inl ⟨hw, fun w hc => ?_⟩, h2⟩
    have h3 := h1 w hc
    unfold Oper.quietAt at h3
    cases hr : (execOp a.eval o).run P w with
    | halt e w1 => rw [hr] at h3; exact h3.elim
    | ok n w1 =>
      obtain ⟨u, rfl⟩ := plain_value2 hp a.eval w w1 n hr
      rw [hr] at h3
      obtain ⟨rfl, rfl⟩ := h3
      rfl
  · rw [if_neg hw] at h
    exact ⟨undef, .inr ⟨by simpa using hw, rfl⟩, h⟩
/-- An operation that only moves a value: it asks nothing of the world. -/
def moveOp : Op → Bool
  | .move _ | .assign _ => true
  | _ => false
theorem Flt.any {o : Oper} {v : Value} {a : Act} (hm : moveOp o.op = true) (hC : ∃ w, C w) (h : Flt P ops C o v a) : Flt P ops (fun _ => True) o v a := by
  rcases h with ⟨h1, h2⟩ | h
  · refine .inl ⟨h1, fun w _ => ?_⟩
    obtain ⟨w0, hw0⟩ := hC
    have h3 := h2 w0 hw0
    obtain ⟨dst, op, type, pos, after, guard⟩ := o
    cases op <;> simp only [moveOp, Bool.false_eq_true] at hm
    all_goals
      have h4 : (Result.ok (Next.value _) w0 : Result Next) = .ok (.value v) w0 := h3
      injection h4 with h5 _
      show (Result.ok (Next.value _) w : Result Next) = .ok (.value v) w
      rw [h5]
  · exact .inr h
/-- Whatever order is drawn from here on; each operation that is none of T leaves the world as it is, or one of the class. -/
def anyM (P : Program) (ops : Array Oper) (T : List Nat) (C : World → Prop) (Q : Exit → Act → World → Prop) : Nat → Array Bool → Act → World → Prop
  | 0, listed, a, w => Region.ready .any ops listed = [] ∧ Q .normal a w
  | fuel + 1, listed, a, w =>
    (Region.ready .any ops listed = [] → Q .normal a w) ∧
    ∀ i ∈ Region.ready .any ops listed, wpOp P ops (Calm Q) i (fun a' w' => (i ∈ T ∨ w' = w ∨ C w') ∧ anyM P ops T C Q fuel (listed.setIfInBounds i true) a' w') a w
theorem wpAny_of_anyM : ∀ (fuel : Nat) (listed : Array Bool) (a : Act) (w : World), anyM P ops T C Q fuel listed a w → wpAny P .any ops Q fuel listed a w
  | 0, _, _, _, h => h
  | fuel + 1, _, _, _, h => ⟨h.1, fun i hi => wpOp_mono (fun a' w' hk => wpAny_of_anyM fuel _ a' w' hk.2) (wpOp_calm (h.2 i hi))⟩
theorem anyM_first {i : Nat} {oi : Oper} {v : Value} (hi : ops[i]? = some oi) (hsel : ∀ (j : Nat) (o : Oper) cs b, ops[j]? = some o → o.op ≠ .select cs b)
    (hT : ∀ j ∈ T, Waits ops j i) :
    ∀ (fuel : Nat) (listed : Array Bool) (a : Act) (w : World), C w → Closed ops listed →
      (∀ j oj, ops[j]? = some oj → j ≠ i → listed.getD j true = false → (∀ e ∈ oj.after, Region.binds .any e = true → e.on ≠ i) → oi.apart ops oj = true) →
      i ∈ Region.ready .any ops listed → Flt P ops C oi v a →
      anyM P ops T C Q fuel (listed.setIfInBounds i true) (a.put oi.dst v) w → anyM P ops T C Q (fuel + 1) listed a w := by
  intro fuel
  induction fuel with
  | zero =>
    intro listed a w hw hcl _ hr hy H
    refine ⟨fun h => (by rw [h] at hr; cases hr), fun j hj => ?_⟩
    by_cases hji : j = i
    · subst hji; exact hy.wpOp hi hw ⟨.inr (.inl rfl), H⟩
    · have := ready_mono hj hji
      rw [H.1] at this
      cases this
  | succ fuel ih =>
    intro listed a w hw hcl hfree hr hy H
    refine ⟨fun h => (by rw [h] at hr; cases hr), fun j hj => ?_⟩
    by_cases hji : j = i
    · subst hji; exact hy.wpOp hi hw ⟨.inr (.inl rfl), H⟩
    · have h1 := H.2 j (ready_mono hj hji)
      obtain ⟨hjun, oj, hoj, hall⟩ := mem_ready.1 hj
      have hun : listed.getD i false = false := by
        have h0 := (mem_ready.1 hr).1
        rcases Nat.lt_or_ge i listed.size with h' | h'
        · simp [h'] at h0 ⊢; exact h0
        · simp [Array.getElem?_eq_none h'] at h0
      have hnot : ∀ e ∈ oj.after, Region.binds .any e = true → e.on ≠ i := fun e he hb heq => by
        have h2 := hall e he hb
        rw [heq, hun] at h2
        cases h2
      have hjT : j ∉ T := fun hm => by
        have := hcl.ready hj (hT j hm)
        rw [hun] at this
        cases this
      have h2 := wpOp_flt hoj (hfree j oj hoj hji hjun hnot) (fun cs b => hsel i oi cs b hi) (fun cs b => hsel j oj cs b hoj) hy h1
      have hfree' : ∀ k ok, ops[k]? = some ok → k ≠ i → (listed.setIfInBounds j true).getD k true = false →
          (∀ e ∈ ok.after, Region.binds .any e = true → e.on ≠ i) → oi.apart ops ok = true := fun k ok hk hki hun hno => by
        refine hfree k ok hk hki ?_ hno
        by_cases hjk : j = k
        · subst hjk; exact hjun
        · rw [getD_set_ne true hjk] at hun; exact hun
      refine wpOp_mono (fun a' w' h3 => ?_) h2
      obtain ⟨h4, h5, h6⟩ := h3
      have hw' : C w' := by
        rcases h5 with h5 | h5 | h5
        · exact absurd h5 hjT
        · rw [h5]; exact hw
        · exact h5
      refine ⟨.inr (.inr hw'), ih (listed.setIfInBounds j true) a' w' hw' (hcl.set hj) hfree' (ready_mono hr (Ne.symm hji)) h4 ?_⟩
      rw [Array.setIfInBounds_comm _ _ hji]
      exact h6
theorem anyM_firstP {i : Nat} {oi : Oper} {v : Value} (hi : ops[i]? = some oi) (hsel : ∀ (j : Nat) (o : Oper) cs b, ops[j]? = some o → o.op ≠ .select cs b) :
    ∀ (fuel : Nat) (listed : Array Bool) (a : Act) (w : World), Closed ops listed →
      (∀ j oj, ops[j]? = some oj → j ≠ i → listed.getD j true = false → (∀ e ∈ oj.after, Region.binds .any e = true → e.on ≠ i) → oi.apart ops oj = true) →
      i ∈ Region.ready .any ops listed → Flt P ops (fun _ => True) oi v a →
      anyM P ops T C Q fuel (listed.setIfInBounds i true) (a.put oi.dst v) w → anyM P ops T C Q (fuel + 1) listed a w := by
  intro fuel
  induction fuel with
  | zero =>
    intro listed a w hcl _ hr hy H
    refine ⟨fun h => (by rw [h] at hr; cases hr), fun j hj => ?_⟩
    by_cases hji : j = i
    · subst hji; exact hy.wpOp hi trivial ⟨.inr (.inl rfl), H⟩
    · have := ready_mono hj hji
      rw [H.1] at this
      cases this
  | succ fuel ih =>
    intro listed a w hcl hfree hr hy H
    refine ⟨fun h => (by rw [h] at hr; cases hr), fun j hj => ?_⟩
    by_cases hji : j = i
    · subst hji; exact hy.wpOp hi trivial ⟨.inr (.inl rfl), H⟩
    · have h1 := H.2 j (ready_mono hj hji)
      obtain ⟨hjun, oj, hoj, hall⟩ := mem_ready.1 hj
      have hun : listed.getD i false = false := by
        have h0 := (mem_ready.1 hr).1
        rcases Nat.lt_or_ge i listed.size with h' | h'
        · simp [h'] at h0 ⊢; exact h0
        · simp [Array.getElem?_eq_none h'] at h0
      have hnot : ∀ e ∈ oj.after, Region.binds .any e = true → e.on ≠ i := fun e he hb heq => by
        have h2 := hall e he hb
        rw [heq, hun] at h2
        cases h2
      have h2 := wpOp_flt hoj (hfree j oj hoj hji hjun hnot) (fun cs b => hsel i oi cs b hi) (fun cs b => hsel j oj cs b hoj) hy h1
      have hfree' : ∀ k ok, ops[k]? = some ok → k ≠ i → (listed.setIfInBounds j true).getD k true = false →
          (∀ e ∈ ok.after, Region.binds .any e = true → e.on ≠ i) → oi.apart ops ok = true := fun k ok hk hki hun hno => by
        refine hfree k ok hk hki ?_ hno
        by_cases hjk : j = k
        · subst hjk; exact hjun
        · rw [getD_set_ne true hjk] at hun; exact hun
      refine wpOp_mono (fun a' w' h3 => ?_) h2
      obtain ⟨h4, h5, h6⟩ := h3
      refine ⟨h5, ih (listed.setIfInBounds j true) a' w' (hcl.set hj) hfree' (ready_mono hr (Ne.symm hji)) h4 ?_⟩
      rw [Array.setIfInBounds_comm _ _ hji]
      exact h6

def mixB (P : Program) (ops : Array Oper) (T : List Nat) (C : World → Prop) (Q : Exit → Act → World → Prop) (fuel : Nat) (listed : Array Bool) (a : Act) (w : World) : Prop := anyM P ops T C Q fuel listed a w
def ThenB (P : Program) (ops : Array Oper) (T : List Nat) (C : World → Prop) (Q : Exit → Act → World → Prop) (fuel : Nat) (listed : Array Bool) (a : Act) (w : World) : Prop := C w ∧ mixB P ops T C Q fuel listed a w
theorem ThenB.mk {fuel : Nat} {listed : Array Bool} {a : Act} {w : World} (hw : C w) (h : C w → mixB P ops T C Q fuel listed a w) : ThenB P ops T C Q fuel listed a w := ⟨hw, h hw⟩
def moveAt (ops : Array Oper) (i : Nat) : Bool := ((ops[i]?).map fun o => moveOp o.op).getD false
def fltB2 (ops : Array Oper) (T : List Nat) : List Nat → Array Bool → Bool
  | [], _ => true
  | i :: l, listed => (Region.ready .any ops listed).contains i && Region.free .any ops listed i && (tailsB ops T i || moveAt ops i) && ((ops[i]?).map fun o => plainOp2 o.op).getD false && fltB2 ops T l (listed.setIfInBounds i true)
theorem mixB_flt0 (hs : Region.noSelect ops = true) : ∀ (l : List Nat) (fuel : Nat) (listed : Array Bool) (a : Act) (w : World), C w → Closed ops listed → fltB2 ops T l listed = true →
    wpQuiet P ops C (fun a' => mixB P ops T C Q fuel (listAll l listed) a' w) (opsAt ops l) a → mixB P ops T C Q (l.length + fuel) listed a w
  | [], fuel, listed, a, w, _, _, _, h => by
    rw [show ([] : List Nat).length + fuel = fuel by simp]
    exact h
  | i :: l, fuel, listed, a, w, hw, hcl, hB, h => by
    simp only [fltB2, Bool.and_eq_true, Bool.or_eq_true] at hB
    obtain ⟨⟨⟨⟨hr, hf⟩, ht⟩, hp⟩, hB'⟩ := hB
    cases ho : ops[i]? with
    | none => rw [ho] at hp; cases hp
    | some o =>
      rw [ho] at hp
      have hl : opsAt ops (i :: l) = o :: opsAt ops l := opsAt_cons ho
      rw [hl] at h
      obtain ⟨v, hy, hK⟩ := flt_of_quiet2 ho (by simpa using hp) (wpQuiet_split h)
      have hm := mixB_flt0 hs l fuel (listed.setIfInBounds i true) (a.put o.dst v) w hw (hcl.set (by simpa using hr)) hB' hK
      rw [show (i :: l).length + fuel = l.length + fuel + 1 by simp; omega]
      rcases ht with ht | ht
      · exact anyM_first (T := T) (C := C) (Q := Q) ho (Region.noSelect_spec hs) (tailsB_spec ht) (l.length + fuel) listed a w hw hcl (Region.free_spec ho hf) (by simpa using hr) hy hm
      · have hmo : moveOp o.op = true := by
          unfold moveAt at ht
          rw [ho] at ht
          simpa using ht
        exact anyM_firstP (T := T) (C := C) (Q := Q) ho (Region.noSelect_spec hs) (l.length + fuel) listed a w hcl (Region.free_spec ho hf) (by simpa using hr) (hy.any hmo ⟨w, hw⟩) hm
theorem mixB_flt (hs : Region.noSelect ops = true) (l : List Nat) (fuel : Nat) (listed : Array Bool) (a : Act) {w : World} (hw : C w) (hB : (closedB ops listed && fltB2 ops T l listed) = true)
    (h : wpQuiet P ops C (fun a' => mixB P ops T C Q fuel (listAll l listed) a' w) (opsAt ops l) a) : mixB P ops T C Q (l.length + fuel) listed a w := by
  simp only [Bool.and_eq_true] at hB
  exact mixB_flt0 hs l fuel listed a w hw (closedB_spec hB.1) hB.2 h
theorem mixB_one {i : Nat} {K : Act → World → Prop} {a : Act} {w : World} (hi : (ops[i]?).isSome = true) (h : wpList P ops (Exit.then K (Calm Q)) (opsAt ops [i]) a w) : wpOp P ops (Calm Q) i K a w := by
  obtain ⟨o, ho⟩ := Option.isSome_iff_exists.1 hi
  rw [opsAt_cons ho] at h
  exact wpOp_of_list ho h
theorem mixB_ch {i : Nat} {fuel : Nat} {listed : Array Bool} {a : Act} {w : World} (hr : Region.ready .any ops listed = [i]) (hi : (ops[i]?).isSome = true)
    (h : wpList P ops (Exit.then (ThenB P ops T C Q fuel (listed.setIfInBounds i true)) (Calm Q)) (opsAt ops [i]) a w) : mixB P ops T C Q (fuel + 1) listed a w := by
  refine ⟨fun h0 => (by rw [h0] at hr; cases hr), fun j hj => ?_⟩
  rw [hr] at hj
  obtain rfl : j = i := by simpa using hj
  exact wpOp_mono (fun a' w' hk => ⟨.inr (.inr hk.1), hk.2⟩) (mixB_one hi h)
/-- Two operations come in either order. -/
theorem mixB_br {i j : Nat} {fuel : Nat} {listed : Array Bool} {a : Act} {w : World} (hr : Region.ready .any ops listed = [i, j]) (hi : ((ops[i]?).isSome && (ops[j]?).isSome) = true)
    (h1 : wpList P ops (Exit.then (ThenB P ops T C Q fuel (listed.setIfInBounds i true)) (Calm Q)) (opsAt ops [i]) a w)
    (h2 : wpList P ops (Exit.then (ThenB P ops T C Q fuel (listed.setIfInBounds j true)) (Calm Q)) (opsAt ops [j]) a w) : mixB P ops T C Q (fuel + 1) listed a w := by
  simp only [Bool.and_eq_true] at hi
  refine ⟨fun h0 => (by rw [h0] at hr; cases hr), fun k hk => ?_⟩
  rw [hr] at hk
  have hk2 : k = i ∨ k = j := by simpa using hk
  rcases hk2 with rfl | rfl
  · exact wpOp_mono (fun a' w' hk => ⟨.inr (.inr hk.1), hk.2⟩) (mixB_one hi.1 h1)
  · exact wpOp_mono (fun a' w' hk => ⟨.inr (.inr hk.1), hk.2⟩) (mixB_one hi.2 h2)
theorem anyM_tail : ∀ (l : List Nat) (listed : Array Bool) (a : Act) (w : World), tailB ops T l listed = true → wpList P ops (Calm Q) (opsAt ops l) a w → anyM P ops T C Q l.length listed a w
  | [], listed, a, w, hB, h => ⟨by simpa [tailB] using hB, h⟩
  | i :: l, listed, a, w, hB, h => by
    simp only [tailB, Bool.and_eq_true, beq_iff_eq] at hB
    obtain ⟨⟨⟨hr, hT⟩, hs⟩, hB'⟩ := hB
    cases ho : ops[i]? with
    | none => rw [ho] at hs; cases hs
    | some o =>
      have hl : opsAt ops (i :: l) = o :: opsAt ops l := opsAt_cons ho
      rw [hl] at h
      refine ⟨fun h0 => (by rw [h0] at hr; cases hr), fun j hj => ?_⟩
      rw [hr] at hj
      obtain rfl : j = i := by simpa using hj
      have h' : wpOp P ops (Calm Q) j (wpList P ops (Calm Q) (opsAt ops l)) a w := by
        unfold wpOp
        simp only [ho]
        exact h
      exact wpOp_mono (fun a' w' hk => ⟨.inl (by simpa using hT), anyM_tail l _ a' w' hB' hk⟩) h'
theorem mixB_end (l : List Nat) {listed : Array Bool} {a : Act} {w : World} (hB : tailB ops T l listed = true) (h : wpList P ops (Calm Q) (opsAt ops l) a w) : mixB P ops T C Q l.length listed a w :=
  anyM_tail l listed a w hB h
theorem mixB_start {id : Nat} {a : Act} {w : World} (T : List Nat) (C : World → Prop) (hm : P.follows .mixedOrders = true) (hC : C { w with drawn := w.drawn + 1 })
    (h : C { w with drawn := w.drawn + 1 } → mixB P ops T C Q ops.size (Array.replicate ops.size false) a { w with drawn := w.drawn + 1 }) : (Code.region id ops true).wp P Q a w :=
  wp_region_any hm (wpAny_of_anyM _ _ _ _ (h hC))
end
/-! A class: worlds in which all old blocks but one are as they were. -/
def KeptG (g : Nat) (w w' : World) : Prop := w.heap.size ≤ w'.heap.size ∧ ∀ b, b < w.heap.size → b ≠ g → w'.heap[b]? = w.heap[b]?
theorem KeptG.refl (g : Nat) (w : World) : KeptG g w w := ⟨Nat.le_refl _, fun _ _ _ => rfl⟩
theorem KeptG.trans {g : Nat} {a b c : World} (h : KeptG g a b) (k : KeptG g b c) : KeptG g a c := ⟨Nat.le_trans h.1 k.1, fun i hi hg => by rw [k.2 i (Nat.lt_of_lt_of_le hi h.1) hg, h.2 i hi hg]⟩
theorem KeptG.of_below {g : Nat} {w w' : World} (h : Below w.heap.size w w') : KeptG g w w' := ⟨h.size, fun b hb _ => h.block b hb⟩
theorem KeptG.set (g o : Nat) (w : World) (u : Value) : KeptG g w (w.setCell ⟨g, o, none⟩ u) := ⟨by simp, fun b _ hne => Below.heap_setCell _ _ _ _ hne⟩
theorem KeptG.drew {g : Nat} {w w' : World} (h : KeptG g w w') : KeptG g w w'.drew := h
open Classical in
noncomputable def extG (g : Nat) (w x : World) : World := if KeptG g w x then x else w
theorem extG_kept (g : Nat) (w x : World) : KeptG g w (extG g w x) := by
  unfold extG
  split
  · assumption
  · exact KeptG.refl _ _
theorem extG_of {g : Nat} {w x : World} (h : KeptG g w x) : x = extG g w x := by
  unfold extG
  rw [if_pos h]
def ClsG (g : Nat) (w : World) : World → Prop := fun w' => ∃ x, w' = extG g w x
theorem ClsG_def (g : Nat) (w : World) : ClsG g w = fun w' => ∃ x, w' = extG g w x := rfl
theorem ClsG.of {g : Nat} {w x : World} (h : KeptG g w x) : ClsG g w x := ⟨x, extG_of h⟩
theorem ClsG.kept {g : Nat} {w x : World} (h : ClsG g w x) : KeptG g w x := by
  obtain ⟨y, rfl⟩ := h
  exact extG_kept g w y
theorem ClsG.drew (g : Nat) (w : World) : ClsG g w { w with drawn := w.drawn + 1 } := .of ⟨Nat.le_refl _, fun _ _ _ => rfl⟩
theorem ClsG.trans {g : Nat} {w x y : World} (h : ClsG g w x) (k : KeptG g x y) : ClsG g w y := .of (h.kept.trans k)
/-- A block that is there, apart from g. -/
def Og (g : Nat) (w : World) (b : Nat) : Prop := b < w.heap.size ∧ b ≠ g
@[go_sem] theorem extG_cell (g : Nat) (w x : World) (b o : Nat) (h : Og g w b) : (extG g w x).cell? ⟨b, o, none⟩ = w.cell? ⟨b, o, none⟩ := by
  unfold World.cell?
  rw [(extG_kept g w x).2 b h.1 h.2]
@[go_sem] theorem extG_frozen (g : Nat) (w x : World) (b o : Nat) (h : Og g w b) : (extG g w x).frozen? ⟨b, o, none⟩ = w.frozen? ⟨b, o, none⟩ := by
  unfold World.frozen?
  rw [(extG_kept g w x).2 b h.1 h.2]
end Go.Proofs.YthcojmpigdojoaaDoor
