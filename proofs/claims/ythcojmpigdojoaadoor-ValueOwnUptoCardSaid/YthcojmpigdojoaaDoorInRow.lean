/- Rows of structs in memory: their cells; a part of an own row that is stored anew; slices.Clone of such rows. Conditions: at most 2^30 parts. -/
import Derived.Test.YthcojmpigdojoaaDoorAcc
import Derived.WalkKit
import Derived.WalkSpells
import Derived.BigQuiet
import Derived.BigRegion
import Derived.Lib.Hide
import Derived.Laws.IdiomCopy
set_option linter.unusedVariables false
set_option linter.unusedSimpArgs false
namespace Go.Proofs.YthcojmpigdojoaaDoor
open Go Go.RowKit Go.BigFrame
set_option maxRecDepth 100000

theorem list_of' {α : Type} {Q : Nat → α → Prop} : ∀ n, (∀ i, i < n → ∃ v, Q i v) → ∃ l : List α, l.length = n ∧ ∀ i (h : i < l.length), Q i l[i] := by
  intro n
  induction n with
  | zero => intro _; exact ⟨[], rfl, fun i h => by simp at h⟩
  | succ n ih =>
    intro h
    obtain ⟨l, hl, hq⟩ := ih (fun i hi => h i (by omega))
    obtain ⟨v, hv⟩ := h n (by omega)
    refine ⟨l ++ [v], by simp [hl], fun i hi => ?_⟩
    rcases Nat.lt_or_ge i l.length with h1 | h1
    · rw [List.getElem_append_left h1]
      exact hq i h1
    · have : i = l.length := by simp at hi; omega
      subst this
      simp only [List.getElem_concat_length]
      rw [hl]
      exact hv
/-- Parts of a row, in memory. -/
def RowIn {α : Type} (R : (Nat → Prop) → World → α → List Value → Prop) (sz : Nat) (S : Nat → Prop) (w : World) (p : Option Addr) (vs : List α) : Prop := ∀ i (h : i < vs.length), ∃ g o cs, p = some ⟨g, o, none⟩ ∧ CellsAt S w g (o + i * sz) cs ∧ R S w vs[i] cs
theorem hasL_row {S : Nat → Prop} {w : World} {p : Option Addr} {l : List DVal} : HasL S w p l ↔ RowIn HasVal 6 S w p l := Iff.rfl
theorem hasF_row {S : Nat → Prop} {w : World} {p : Option Addr} {f : List (List UInt8 × DVal)} : HasF S w p f ↔ RowIn HasFld 7 S w p f := by
  constructor
  · intro h i hi
    obtain ⟨g, o, cs, h1, ⟨h2, h3⟩, h4⟩ := h i hi
    exact ⟨g, o, _, h1, h3, cs, rfl, h2, h4⟩
  · intro h i hi
    obtain ⟨g, o, cs, h1, h2, cs', rfl, h3, h4⟩ := h i hi
    exact ⟨g, o, cs', h1, ⟨h3, h2⟩, h4⟩
section
variable {α : Type} {R : (Nat → Prop) → World → α → List Value → Prop} {sz : Nat}
theorem RowIn.css (hR : Rel R sz) (hsz : 0 < sz) {S : Nat → Prop} {w : World} {p : Option Addr} {vs : List α} (h : RowIn R sz S w p vs) :
    ∃ css : List (List Value), css.length = vs.length ∧ (∀ c ∈ css, c.length = sz) ∧ (∀ i (hi : i < vs.length) (hi' : i < css.length), R S w vs[i] css[i]) ∧ ∀ a, p = some a → ∀ j u, css.flatten[j]? = some u → w.cell? (a.add j) = some u := by
  obtain ⟨css, h1, h2⟩ := list_of' (Q := fun i (cs : List Value) => ∀ hi : i < vs.length, (∃ g o, p = some ⟨g, o, none⟩ ∧ CellsAt S w g (o + i * sz) cs) ∧ R S w vs[i] cs) vs.length (fun i hi => by
    obtain ⟨g, o, cs, q1, q2, q3⟩ := h i hi
    exact ⟨cs, fun _ => ⟨⟨g, o, q1, q2⟩, q3⟩⟩)
  have hl : ∀ c ∈ css, c.length = sz := fun c hc => by
    obtain ⟨i, hi, rfl⟩ := List.getElem_of_mem hc
    exact hR.len (h2 i hi (by omega)).2
  refine ⟨css, h1, hl, fun i hi hi' => (h2 i hi' hi).2, ?_⟩
  rintro a rfl j u hj
  have hjl : j < css.flatten.length := (List.getElem?_eq_some_iff.1 hj).1
  have hfl : css.flatten.length = css.length * sz := by
    clear h2 h1 hj hjl h
    induction css with
    | nil => simp
    | cons c css ih => rw [List.flatten_cons, List.length_append, hl c (by simp), ih (fun d hd => hl d (by simp [hd])), List.length_cons, Nat.succ_mul]; omega
  have hi : j / sz < css.length := by rw [Nat.div_lt_iff_lt_mul hsz]; omega
  have hr := Nat.mod_lt j hsz
  have hjd : j / sz * sz + j % sz = j := by rw [Nat.mul_comm]; exact Nat.div_add_mod j sz
  have hg := flatten_get hl hi hr
  rw [hjd, hj] at hg
  obtain ⟨⟨g, o, q1, _, _, q4⟩, _⟩ := h2 _ hi (by omega)
  obtain rfl := Option.some.inj q1
  have h5 := q4 (j % sz) (by rw [hl _ (List.getElem_mem hi)]; exact hr)
  rw [← hg] at h5
  have e : (⟨g, o, none⟩ : Addr).add j = ⟨g, o + j / sz * sz + j % sz, none⟩ := by
    rw [Nat.add_assoc, hjd]
    unfold Addr.add; split <;> simp_all
  rw [e]
  exact h5
theorem RowIn.kept (hR : Rel R sz) {S S' : Nat → Prop} {w w' : World} {p : Option Addr} {vs : List α} (h : RowIn R sz S w p vs) (hS : ∀ b, S b → S' b) (hw : ∀ b, S b → b < w.heap.size → w'.heap[b]? = w.heap[b]?) : RowIn R sz S' w' p vs := fun i hi => by
  obtain ⟨g, o, cs, h1, h2, h3⟩ := h i hi
  exact ⟨g, o, cs, h1, h2.kept hS hw, hR.kept h3 hS hw⟩
theorem RowIn.ext (hR : Rel R sz) {S : Nat → Prop} {w w' : World} {p : Option Addr} {vs : List α} (h : RowIn R sz S w p vs) (hb : Below w.heap.size w w') : RowIn R sz S w' p vs := h.kept hR (fun _ h => h) (fun b _ hlt => hb.block b hlt)
/-- What a list holds behind stores from a place on. -/
def putAt (xs : List Value) : Nat → List Value → List Value
  | _, [] => xs
  | o, v :: vs => putAt (xs.set o v) (o + 1) vs
theorem putAt_mid : ∀ (old new A C : List Value), old.length = new.length → putAt (A ++ old ++ C) A.length new = A ++ new ++ C
  | [], [], A, C, _ => rfl
  | x :: old, v :: new, A, C, h => by
    rw [putAt]
    have e1 : (A ++ x :: old ++ C).set A.length v = A ++ [v] ++ old ++ C := by
      rw [List.append_assoc, List.set_append_right _ _ (Nat.le_refl _), Nat.sub_self, List.cons_append, List.set_cons_zero]
      simp
    have := putAt_mid old new (A ++ [v]) C (by simpa using h)
    rw [List.length_append, List.length_singleton] at this
    rw [e1, this]
    simp
theorem flatten_take {css : List (List Value)} (hl : ∀ c ∈ css, c.length = sz) : ∀ j, j ≤ css.length → (css.take j).flatten.length = j * sz := by
  induction css with
  | nil => intro j hj; simp at hj; subst hj; simp
  | cons c css ih =>
    intro j hj
    cases j with
    | zero => simp
    | succ j =>
      rw [List.take_succ_cons, List.flatten_cons, List.length_append, hl c (by simp), ih (fun d hd => hl d (by simp [hd])) j (by simpa using hj), Nat.succ_mul]
      omega
theorem putAt_flat {css : List (List Value)} {pad pre old new : List Value} {j : Nat} (hl : ∀ c ∈ css, c.length = sz) (hj : j < css.length) (ho : css[j] = pre ++ old) (hn : (pre ++ new).length = sz) : putAt (css.flatten ++ pad) (j * sz + pre.length) new = (css.set j (pre ++ new)).flatten ++ pad := by
  have e1 : css = css.take j ++ css[j] :: css.drop (j + 1) := by rw [← List.drop_eq_getElem_cons hj, List.take_append_drop]
  have e2 : css.flatten ++ pad = (css.take j).flatten ++ pre ++ old ++ ((css.drop (j + 1)).flatten ++ pad) := by
    have h := congrArg List.flatten e1
    rw [List.flatten_append, List.flatten_cons, ho] at h
    rw [h]
    simp only [List.append_assoc]
  have e3 : (css.set j (pre ++ new)).flatten ++ pad = (css.take j).flatten ++ pre ++ new ++ ((css.drop (j + 1)).flatten ++ pad) := by
    rw [List.set_eq_take_append_cons_drop, if_pos hj]
    simp [List.append_assoc]
  have h3 := flatten_take hl j (by omega)
  have h4 : ((css.take j).flatten ++ pre).length = j * sz + pre.length := by rw [List.length_append, h3]
  have h5 := hl _ (List.getElem_mem hj)
  rw [ho, List.length_append] at h5
  rw [List.length_append] at hn
  rw [e2, e3, ← h4]
  exact putAt_mid _ _ _ _ (by omega)
theorem blk_setCells {g : Nat} {t : TypeId} : ∀ (vs : List Value) (o : Nat) (w : World) (cs : List Value), IsBlk w g cs.toArray t → IsBlk (w.setCells g o vs) g (putAt cs o vs).toArray t
  | [], o, w, cs, h => h
  | v :: vs, o, w, cs, h => by
    rw [World.setCells, putAt]
    have h2 := h.set o v
    rw [List.setIfInBounds_toArray] at h2
    exact blk_setCells vs (o + 1) _ _ h2
theorem other_setCells {g b : Nat} (hne : b ≠ g) : ∀ (vs : List Value) (o : Nat) (w : World), (w.setCells g o vs).heap[b]? = w.heap[b]?
  | [], o, w => rfl
  | v :: vs, o, w => by
    rw [World.setCells, other_setCells hne vs]
    exact Below.heap_setCell _ _ _ _ hne
theorem below_setCells {B : Nat} {w0 : World} {g : Nat} (hg : B ≤ g) : ∀ (vs : List Value) (o : Nat) (w : World), Below B w0 w → Below B w0 (w.setCells g o vs)
  | [], o, w, h => h
  | v :: vs, o, w, h => by
    rw [World.setCells]
    exact below_setCells hg vs (o + 1) _ (below_set h hg)
/-- An own row of which the first j parts are the call's own throughout (D: where they lead to), the others as they were. -/
def Half (R : (Nat → Prop) → World → α → List Value → Prop) (sz B : Nat) (D S : Nat → Prop) (e : TypeId) (w : World) (v : Value) (vs : List α) (j : Nat) : Prop :=
  ∃ css : List (List Value), w.ownsRow B e sz v vs.length css.flatten ∧ css.length = vs.length ∧ (∀ c ∈ css, c.length = sz) ∧ ∀ i (h : i < vs.length) (h' : i < css.length), (i < j → R D w vs[i] css[i]) ∧ (j ≤ i → R S w vs[i] css[i])
theorem Half.acc (hR : Rel R sz) {B : Nat} {D S : Nat → Prop} {e : TypeId} {w : World} {v : Value} {vs : List α} (h : Half R sz B D S e w v vs vs.length) (hD : ∀ b, D b → B ≤ b ∧ v.ownBlock ≠ some b) : Acc R B e sz w v vs := by
  obtain ⟨css, h1, h2, h3, h4⟩ := h
  exact ⟨css, h1, h2, fun i hi hi' => hR.kept ((h4 i hi hi').1 hi) hD (fun _ _ _ => rfl)⟩
theorem Half.kept (hR : Rel R sz) {B : Nat} {D S : Nat → Prop} {e : TypeId} {w w' : World} {v : Value} {vs : List α} {j : Nat} (h : Half R sz B D S e w v vs j) (hk : ∀ b, v.ownBlock = some b → w'.heap[b]? = w.heap[b]?) (hD : ∀ b, D b → b < w.heap.size → w'.heap[b]? = w.heap[b]?) (hS : ∀ b, S b → b < w.heap.size → w'.heap[b]? = w.heap[b]?) : Half R sz B D S e w' v vs j := by
  obtain ⟨css, h1, h2, h3, h4⟩ := h
  exact ⟨css, owns_kept h1 hk, h2, h3, fun i hi hi' => ⟨fun hj => hR.kept ((h4 i hi hi').1 hj) (fun _ h => h) hD, fun hj => hR.kept ((h4 i hi hi').2 hj) (fun _ h => h) hS⟩⟩
theorem Half.ext (hR : Rel R sz) {B : Nat} {D S : Nat → Prop} {e : TypeId} {w w' : World} {v : Value} {vs : List α} {j : Nat} (h : Half R sz B D S e w v vs j) (hb : Below w.heap.size w w') : Half R sz B D S e w' v vs j := by
  have h' := h
  obtain ⟨css, h1, _⟩ := h'
  exact h.kept hR (fun b hb' => hb.block b (h1.lt b hb').2) (fun b _ hlt => hb.block b hlt) (fun b _ hlt => hb.block b hlt)
theorem Half.base {B B' : Nat} {D S : Nat → Prop} {e : TypeId} {w : World} {v : Value} {vs : List α} {j : Nat} (h : Half R sz B D S e w v vs j) (hB : B' ≤ B) : Half R sz B' D S e w v vs j := by
  obtain ⟨css, ⟨h0, h1⟩, h2⟩ := h
  refine ⟨css, ⟨h0, ?_⟩, h2⟩
  rcases h1 with h1 | ⟨g, cap, cur, e1, e2, e3⟩
  · exact .inl h1
  · exact .inr ⟨g, cap, cur, e1, by omega, e3⟩
theorem Half.slice {B : Nat} {D S : Nat → Prop} {e : TypeId} {w : World} {v : Value} {vs : List α} {j : Nat} (h : Half R sz B D S e w v vs j) : ∃ p c, v = .slice p vs.length c ∧ (∀ k, v.ownBlock = some k → B ≤ k ∧ k < w.heap.size) := by
  obtain ⟨css, h1, _⟩ := h
  rcases h1.2 with ⟨rfl, h0⟩ | ⟨g, cap, cur, rfl, _⟩
  · exact ⟨none, 0, by rw [h0], fun k hk => h1.lt k hk⟩
  · exact ⟨_, _, rfl, fun k hk => h1.lt k hk⟩
/-- The part that comes next, with its cells. -/
theorem Half.next {B : Nat} {D S : Nat → Prop} {e : TypeId} {w : World} {v : Value} {vs : List α} {j : Nat} (h : Half R sz B D S e w v vs j) (hj : j < vs.length) :
    ∃ g cap cs, v = .slice (some ⟨g, 0, none⟩) vs.length cap ∧ B ≤ g ∧ g < w.heap.size ∧ vs.length ≤ cap ∧ cap ≤ maxLen ∧ R S w vs[j] cs ∧ cs.length = sz ∧ (∀ r, r < sz → w.cell? ⟨g, j * sz + r, none⟩ = cs[r]?) ∧ ∀ o, w.frozen? ⟨g, o, none⟩ = false := by
  obtain ⟨css, h1, h2, h3, h4⟩ := h
  rcases h1.2 with ⟨rfl, h0⟩ | ⟨g, cap, cur, rfl, hb, hg, hnc, hcm, hcs, hx⟩
  · omega
  · have hj' : j < css.length := by omega
    have hgb : IsBlk w g cur e := hg
    refine ⟨g, cap, css[j], rfl, hb, hgb.lt, hnc, hcm, (h4 j hj hj').2 (Nat.le_refl _), h3 _ (List.getElem_mem hj'), fun r hr => ?_, fun o => hgb.frozen o⟩
    have hg2 := flatten_get h3 hj' hr
    rw [← hx, List.getElem?_take] at hg2
    have hle : j * sz + r < vs.length * sz := by
      have : (j + 1) * sz ≤ vs.length * sz := Nat.mul_le_mul_right _ (by omega)
      rw [Nat.succ_mul] at this
      omega
    rw [if_pos hle] at hg2
    have hv : css[j][r]? = some (css[j][r]'(by rw [h3 _ (List.getElem_mem hj')]; exact hr)) := List.getElem?_eq_getElem _
    rw [hv] at hg2 ⊢
    exact hgb.cell (by simpa using hg2)
/-- What a row's parts are once all are the call's own. -/
theorem Half.cells (hR : Rel R sz) {B : Nat} {D S S' : Nat → Prop} {e : TypeId} {w : World} {v : Value} {vs : List α} (h : Half R sz B D S' e w v vs vs.length) (hown : ∀ g, v.ownBlock = some g → S g) (hD : ∀ b, D b → S b) :
    ∃ p c, v = .slice p vs.length c ∧ vs.length ≤ c ∧ c ≤ maxLen ∧ ∀ i (hi : i < vs.length), ∃ g cs, p = some ⟨g, 0, none⟩ ∧ CellsAt S w g (0 + i * sz) cs ∧ R S w vs[i] cs := by
  obtain ⟨css, h1, h2, hl, h3⟩ := h
  rcases h1.2 with ⟨rfl, h0⟩ | ⟨g, cap, cur, rfl, hb, hg, hnc, hcm, hcs, hx⟩
  · exact ⟨none, 0, by rw [h0], by omega, by unfold maxLen; omega, fun i hi => by omega⟩
  · refine ⟨_, cap, rfl, hnc, hcm, fun i hi => ?_⟩
    have hi' : i < css.length := by omega
    refine ⟨g, css[i], rfl, ⟨hown g rfl, (show IsBlk w g cur e from hg).lt, fun j hj => ?_⟩, hR.kept ((h3 i hi hi').1 hi) hD (fun _ _ _ => rfl)⟩
    have hjs : j < sz := by rw [← hl _ (List.getElem_mem hi')]; exact hj
    have hg2 := flatten_get hl hi' hjs
    rw [← hx, List.getElem?_take] at hg2
    have hle : i * sz + j < vs.length * sz := by
      have : (i + 1) * sz ≤ vs.length * sz := Nat.mul_le_mul_right _ (by omega)
      rw [Nat.succ_mul] at this
      omega
    rw [if_pos hle] at hg2
    have hv : css[i][j]? = some (css[i][j]) := List.getElem?_eq_getElem hj
    rw [hv] at hg2 ⊢
    rw [Nat.zero_add]
    exact (show IsBlk w g cur e from hg).cell (by simpa using hg2)
/-- A part stored anew. -/
theorem Half.step (hR : Rel R sz) {B : Nat} {D S : Nat → Prop} {e : TypeId} {w w2 : World} {g n cap : Nat} {vs : List α} {j : Nat} {pre new : List Value} (h : Half R sz B D S e w (.slice (some ⟨g, 0, none⟩) n cap) vs j) (hbw : Below w.heap.size w w2) (hj : j < vs.length) (hgS : ∀ b, S b → b ≠ g) (hDn : ∀ b, w.heap.size ≤ b → D b) (hDg : ∀ b, D b → b ≠ g)
    (hpre : ∀ (S : Nat → Prop) (w : World) (cs : List Value), R S w vs[j] cs → ∃ old, cs = pre ++ old) (hn : R (fun b => w.heap.size ≤ b) w2 vs[j] (pre ++ new)) : Half R sz B D S e (w2.setCells g (j * sz + pre.length) new) (.slice (some ⟨g, 0, none⟩) n cap) vs (j + 1) := by
  obtain ⟨css, h1, h2, h3, h4⟩ := h
  have hj' : j < css.length := by omega
  rcases h1.2 with ⟨hx, _⟩ | ⟨g', cap', cur, hv, hBg, hg, hnc, hcm, hcs, hx⟩
  · cases hx
  · have hv2 := Value.slice.inj hv
    obtain ⟨e1, e2, e3⟩ := hv2
    obtain rfl : g = g' := by simpa using e1
    subst e2
    subst e3
    have hgb : IsBlk w g cur e := hg
    have hgl := hgb.lt
    have hgb2 : IsBlk w2 g (cur.toList).toArray e := by simpa using hgb.ext hbw
    have hcl := hR.len hn
    have hpad : cur.toList = css.flatten ++ cur.toList.drop (vs.length * sz) := by rw [← hx, List.take_append_drop]
    obtain ⟨old, hold⟩ := hpre _ _ _ ((h4 j hj hj').2 (Nat.le_refl _))
    have hgb3 := blk_setCells new (j * sz + pre.length) w2 _ hgb2
    rw [hpad, putAt_flat h3 hj' hold hcl] at hgb3
    obtain ⟨cs', hcs'⟩ : ∃ cs', cs' = pre ++ new := ⟨_, rfl⟩
    rw [← hcs'] at hgb3 hcl hn
    have hl' : ∀ c ∈ css.set j cs', c.length = sz := fun c hc => by
      rcases List.mem_or_eq_of_mem_set hc with h | h
      · exact h3 c h
      · rw [h]; exact hcl
    have hfl : ((css.set j cs').flatten).length = vs.length * sz := by
      have := flatten_take hl' (css.set j cs').length (Nat.le_refl _)
      rw [List.take_length, List.length_set] at this
      rw [this, h2]
    have hcur : cur.toList.length = cap * sz := by simpa using hcs
    have hoth : ∀ b, b ≠ g → (w2.setCells g (j * sz + pre.length) new).heap[b]? = w2.heap[b]? := fun b hb => other_setCells hb new _ _
    refine ⟨css.set j cs', ⟨hfl, .inr ⟨g, cap, _, rfl, hBg, hgb3, hnc, hcm, ?_, ?_⟩⟩, by rw [List.length_set, h2], hl', fun i hi hi' => ?_⟩
    · have h6 : vs.length * sz ≤ cap * sz := Nat.mul_le_mul_right _ hnc
      rw [List.size_toArray, List.length_append, hfl, List.length_drop, hcur]
      omega
    · rw [← hfl]
      exact List.take_left
    · rw [List.length_set] at hi'
      by_cases hij : i = j
      · subst hij
        refine ⟨fun _ => ?_, fun h => by omega⟩
        rw [List.getElem_set_self]
        exact hR.kept hn hDn (fun b hb hlt => hoth b (fun e => by have h6 : w.heap.size ≤ b := hb; omega))
      · have e1 : (css.set j cs')[i]'(by rw [List.length_set]; exact hi') = css[i] := List.getElem_set_ne (fun e => hij e.symm) _
        rw [e1]
        refine ⟨fun h => ?_, fun h => ?_⟩
        · refine hR.kept ((h4 i hi hi').1 (by omega)) (fun _ h => h) (fun b hb hlt => ?_)
          rw [hoth b (hDg b hb)]
          exact hbw.block b hlt
        · refine hR.kept ((h4 i hi hi').2 (by omega)) (fun _ h => h) (fun b hb hlt => ?_)
          rw [hoth b (hgS b hb)]
          exact hbw.block b hlt
end
end Go.Proofs.YthcojmpigdojoaaDoor
