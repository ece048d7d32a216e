/- Rows of structs that a call owns: what each part is, and append of one more. No conditions. -/
import Derived.Test.YthcojmpigdojoaaDoorVal
import Derived.Test.YthcojmpigdojoaaDoorPush
import Derived.Deep.AppendLies
set_option linter.unusedVariables false
set_option linter.unusedSimpArgs false
namespace Go.Proofs.YthcojmpigdojoaaDoor
open Go Go.RowKit

/-- What is asked of a relation between a plain value and its cells. -/
structure Rel {α : Type} (R : (Nat → Prop) → World → α → List Value → Prop) (sz : Nat) : Prop where
  kept : ∀ {S S' : Nat → Prop} {w w' : World} {a : α} {cs : List Value}, R S w a cs → (∀ b, S b → S' b) → (∀ b, S b → b < w.heap.size → w'.heap[b]? = w.heap[b]?) → R S' w' a cs
  lt : ∀ {S : Nat → Prop} {w : World} {a : α} {cs : List Value}, R S w a cs → R (fun b => S b ∧ b < w.heap.size) w a cs
  len : ∀ {S : Nat → Prop} {w : World} {a : α} {cs : List Value}, R S w a cs → cs.length = sz
  one : ∀ {S : Nat → Prop} {w : World} {a : α} {cs : List Value}, R S w a cs → ∀ u ∈ cs, u.oneCell' = true
/-- A row that the call owns: its parts; what they lead to lies in memory of the call's own, apart from the row itself. -/
def Acc {α : Type} (R : (Nat → Prop) → World → α → List Value → Prop) (B : Nat) (e : TypeId) (sz : Nat) (w : World) (v : Value) (vs : List α) : Prop :=
  ∃ css : List (List Value), w.ownsRow B e sz v vs.length css.flatten ∧ css.length = vs.length ∧ ∀ i (h : i < vs.length) (h' : i < css.length), R (fun b => B ≤ b ∧ v.ownBlock ≠ some b) w vs[i] css[i]
section
variable {α : Type} {R : (Nat → Prop) → World → α → List Value → Prop} {sz : Nat}
theorem Acc.nil (B : Nat) (e : TypeId) (w : World) : Acc R B e sz w (.slice none 0 0) [] := ⟨[], ⟨by simp, Or.inl ⟨rfl, rfl⟩⟩, rfl, fun i h => by simp at h⟩
theorem owns_kept {w w' : World} {B n : Nat} {e : TypeId} {v : Value} {xs : List Value} (h : w.ownsRow B e sz v n xs) (hk : ∀ b, v.ownBlock = some b → w'.heap[b]? = w.heap[b]?) : w'.ownsRow B e sz v n xs := by
  obtain ⟨h1, h2⟩ := h
  refine ⟨h1, ?_⟩
  rcases h2 with h2 | ⟨g, cap, cur, rfl, hb, hg, hr⟩
  · exact Or.inl h2
  · exact Or.inr ⟨g, cap, cur, rfl, hb, (hk g rfl).trans hg, hr⟩
theorem Acc.kept (hR : Rel R sz) {B : Nat} {e : TypeId} {w w' : World} {v : Value} {vs : List α} (h : Acc R B e sz w v vs) (hk : ∀ b, B ≤ b → b < w.heap.size → w'.heap[b]? = w.heap[b]?) : Acc R B e sz w' v vs := by
  obtain ⟨css, h1, h2, h3⟩ := h
  exact ⟨css, owns_kept h1 (fun b hb => hk b (h1.lt b hb).1 (h1.lt b hb).2), h2, fun i hi hi' => hR.kept (h3 i hi hi') (fun _ h => h) (fun b hb hlt => hk b hb.1 hlt)⟩
theorem Acc.lt {B : Nat} {e : TypeId} {w : World} {v : Value} {vs : List α} (h : Acc R B e sz w v vs) : ∀ k, v.ownBlock = some k → B ≤ k ∧ k < w.heap.size := by
  obtain ⟨css, h1, _⟩ := h
  exact fun k hk => h1.lt k hk
theorem Acc.slice {B : Nat} {e : TypeId} {w : World} {v : Value} {vs : List α} (h : Acc R B e sz w v vs) : ∃ p c, v = .slice p vs.length c := by
  obtain ⟨css, h1, _⟩ := h
  rcases h1.2 with ⟨rfl, h0⟩ | ⟨g, cap, cur, rfl, _⟩
  · exact ⟨none, 0, by rw [h0]⟩
  · exact ⟨_, _, rfl⟩
theorem flatten_get {css : List (List Value)} (hl : ∀ c ∈ css, c.length = sz) : ∀ {i j : Nat} (hi : i < css.length) (hj : j < sz), css.flatten[i * sz + j]? = css[i][j]? := by
  induction css with
  | nil => intro i j hi; simp at hi
  | cons c css ih =>
    intro i j hi hj
    have hc := hl c (by simp)
    rw [List.flatten_cons]
    cases i with
    | zero => rw [Nat.zero_mul, Nat.zero_add, List.getElem?_append_left (by omega)]; rfl
    | succ i =>
      rw [List.getElem?_append_right (by rw [hc, Nat.succ_mul]; omega), hc, show (i + 1) * sz + j - sz = i * sz + j by rw [Nat.succ_mul]; omega, ih (fun d hd => hl d (by simp [hd])) (by simpa using hi) hj]
      rfl
/-- What a row's parts are, as cells in memory. -/
theorem Acc.cells (hR : Rel R sz) {B : Nat} {e : TypeId} {w : World} {v : Value} {vs : List α} (h : Acc R B e sz w v vs) {S : Nat → Prop} (hS : ∀ b, B ≤ b → S b) :
    ∃ p c, v = .slice p vs.length c ∧ vs.length ≤ c ∧ c ≤ maxLen ∧ ∀ i (hi : i < vs.length), ∃ g cs, p = some ⟨g, 0, none⟩ ∧ CellsAt S w g (0 + i * sz) cs ∧ R S w vs[i] cs := by
  obtain ⟨css, h1, h2, h3⟩ := h
  have hl : ∀ c ∈ css, c.length = sz := fun c hc => by
    obtain ⟨i, hi, rfl⟩ := List.getElem_of_mem hc
    exact hR.len (h3 i (by omega) hi)
  rcases h1.2 with ⟨rfl, h0⟩ | ⟨g, cap, cur, rfl, hb, hg, hnc, hcm, hcs, hx⟩
  · exact ⟨none, 0, by rw [h0], by omega, by unfold maxLen; omega, fun i hi => by omega⟩
  · refine ⟨_, cap, rfl, hnc, hcm, fun i hi => ?_⟩
    have hi' : i < css.length := by omega
    refine ⟨g, css[i], rfl, ⟨hS g hb, (show IsBlk w g cur e from hg).lt, fun j hj => ?_⟩, hR.kept (h3 i hi hi') (fun b hb => hS b hb.1) (fun _ _ _ => rfl)⟩
    have hjs : j < sz := by rw [← hl _ (List.getElem_mem hi')]; exact hj
    have hg2 := flatten_get hl hi' hjs
    rw [← hx, List.getElem?_take] at hg2
    have hle : i * sz + j < vs.length * sz := by
      have : (i + 1) * sz ≤ vs.length * sz := Nat.mul_le_mul_right _ (by omega)
      rw [Nat.succ_mul] at this
      omega
    rw [if_pos hle] at hg2
    have hv : css[i][j]? = some (css[i][j]) := List.getElem?_eq_getElem hj
    rw [hv] at hg2 ⊢
    rw [Nat.zero_add]
    exact (show IsBlk w g cur e from hg).cell (by simpa using hg2)
section
variable {P : Program} {ops : Array Oper} {rest : List Oper} {o : Oper} {a : Act} {Q : Exit → Act → World → Prop}
/-- append of one struct that lies in a block. -/
theorem push_acc (hR : Rel R sz) {W : World} (B : Nat) (hgd : o.guard = none) (s x : Operand) (t e : TypeId) (z : Value) (bytes : Nat)
    (ho : o.op = .call { callee := .builtin .append, args := #[s, x], argTypes := #[t, t] })
    (ht : P.underlying t = some (.slice e)) (hinfo : (P.info? e).map (fun i => (i.zero, i.size, i.bytes)) = some (some z, sz, bytes)) (hz : z.cells.size = sz) (hsz : 0 < sz)
    (v : Value) (vs : List α) (HA : Acc R B e sz W v vs) (g : Nat) (cs : List Value) (y : α) (hG : IsBlk W g cs.toArray e) (hy : R (fun b => B ≤ b ∧ v.ownBlock ≠ some b) W y cs) (hs : a.eval s = v) (hx : a.eval x = .slice (some ⟨g, 0, none⟩) 1 1)
    (hB : B ≤ W.heap.size) (hl : (vs.length + 1) * bytes ≤ 140737488355328) (hl2 : vs.length + 1 ≤ maxLen)
    (h : ∀ g1 cap w1, Acc R B e sz w1 (.slice (some ⟨g1, 0, none⟩) (vs.length + 1) cap) (vs ++ [y]) → W.grownBy w1 v.ownBlock → B ≤ g1 → (v.ownBlock = some g1 ∨ g1 = W.heap.size) → g1 < w1.heap.size → wpList P ops Q rest (a.put o.dst (.slice (some ⟨g1, 0, none⟩) (vs.length + 1) cap)) w1) :
    wpList P ops Q (o :: rest) a W := by
  obtain ⟨i0, hi, hzz⟩ := Option.map_eq_some_iff.1 hinfo
  simp only [Prod.mk.injEq] at hzz
  obtain ⟨hz0, hz1, hz2⟩ := hzz
  obtain ⟨css, h1, h2, h3⟩ := HA
  refine wpList_append_lies W hgd s x t ho B e i0 z sz bytes ht hi hz0 hz1 hz2 hz hsz v vs.length css.flatten hs h1 ⟨g, 0, none⟩ 1 1 cs hx (by rw [hR.len hy]; omega) ?_ (hR.one hy) (by omega) hl2 hl hB W.heap.size rfl ?_
  · intro j u hj
    exact hG.add (o := 0) (by simpa using hj)
  · intro g1 cap w1 hown hg hor hlt
    have hB1 : B ≤ g1 := by
      rcases hor with hor | hor
      · exact (h1.lt g1 hor).1
      · omega
    refine h g1 cap w1 ⟨css ++ [cs], ?_, by simp [h2], fun i hi' hi2 => ?_⟩ hg hB1 hor hlt
    · have : (css ++ [cs]).flatten = css.flatten ++ cs := by simp
      rw [this, List.length_append]
      exact hown
    · have key : ∀ (y : α) (cs : List Value), R (fun b => B ≤ b ∧ v.ownBlock ≠ some b) W y cs → R (fun b => B ≤ b ∧ (Value.slice (some ⟨g1, 0, none⟩) (vs.length + 1) cap).ownBlock ≠ some b) w1 y cs := fun y cs hr => by
        refine hR.kept (hR.lt hr) (fun b hb => ⟨hb.1.1, fun e => ?_⟩) (fun b hb hlt => hg.block b hlt (fun e => hb.1.2 e.symm))
        have e2 : g1 = b := Option.some.inj e
        subst e2
        rcases hor with hor | hor
        · exact hb.1.2 hor
        · omega
      rcases Nat.lt_or_ge i vs.length with hlt2 | hge
      · have e1 : (vs ++ [y])[i] = vs[i] := List.getElem_append_left hlt2
        have e2 : (css ++ [cs])[i] = css[i] := List.getElem_append_left (by omega)
        rw [e1, e2]
        exact key _ _ (h3 i hlt2 (by omega))
      · have hie : i = vs.length := by simp at hi'; omega
        subst hie
        have e1 : (vs ++ [y])[vs.length] = y := by simp
        have e2 : (css ++ [cs])[vs.length] = cs := by simp [← h2]
        rw [e1, e2]
        exact key _ _ hy
end
end
theorem hasVal_lt : ∀ (m : Nat) (v : DVal) (S : Nat → Prop) (w : World) (cs : List Value), SizeOf.sizeOf v < m → HasVal S w v cs → HasVal (fun b => S b ∧ b < w.heap.size) w v cs := by
  intro m
  induction m with
  | zero => intro v S w cs h; omega
  | succ m ih =>
    intro v S w cs hm h
    obtain ⟨k, b, n, s, l, f⟩ := v
    obtain ⟨pl, cl, pf, cf, rfl, hb, hl, hf⟩ := hasVal_mk.1 h
    refine hasVal_mk.2 ⟨pl, cl, pf, cf, rfl, hb, ?_, ?_⟩
    · intro i hi
      obtain ⟨g, o, cs, h1, h2, h3⟩ := hl i hi
      have hz := DVal.size_l (k := k) (b := b) (n := n) (s := s) (f := f) l[i] (List.getElem_mem _)
      exact ⟨g, o, cs, h1, ⟨⟨h2.1, h2.2.1⟩, h2.2⟩, ih _ _ _ _ (by omega) h3⟩
    · intro i hi
      obtain ⟨g, o, cs, h1, h2, h3⟩ := hf i hi
      have hz := DVal.size_f (k := k) (b := b) (n := n) (s := s) (l := l) f[i] (List.getElem_mem _)
      exact ⟨g, o, cs, h1, ⟨h2.1, ⟨h2.2.1, h2.2.2.1⟩, h2.2.2⟩, ih _ _ _ _ (by omega) h3⟩
theorem relV : Rel HasVal 6 where
  kept := fun h h1 h2 => h.ext_to h1 h2
  lt := fun h => hasVal_lt _ _ _ _ _ (Nat.lt_succ_self _) h
  len := fun h => h.len
  one := fun {S w a cs} h => by
    obtain ⟨k, b, n, s, l, f⟩ := a
    obtain ⟨pl, cl, pf, cf, rfl, _⟩ := hasVal_mk.1 h
    simp [Value.oneCell']
/-- A field's cells. -/
def HasFld (S : Nat → Prop) (w : World) (p : List UInt8 × DVal) (cs : List Value) : Prop := ∃ cs', cs = .string (bs p.1) :: cs' ∧ p.1.length ≤ 1073741824 ∧ HasVal S w p.2 cs'
theorem relF : Rel HasFld 7 where
  kept := fun ⟨c, h, hl, hv⟩ h1 h2 => ⟨c, h, hl, hv.ext_to h1 h2⟩
  lt := fun ⟨c, h, hl, hv⟩ => ⟨c, h, hl, relV.lt hv⟩
  len := fun ⟨c, h, hl, hv⟩ => by rw [h, List.length_cons, hv.len]
  one := fun ⟨c, h, hl, hv⟩ => by
    intro u hu
    rw [h] at hu
    rcases List.mem_cons.1 hu with rfl | hu
    · simp [Value.oneCell']
    · exact relV.one hv u hu
end Go.Proofs.YthcojmpigdojoaaDoor
