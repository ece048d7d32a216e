/- slices.Insert of one field at the end of a row that the call owns. Conditions: at most 2^30 fields. -/
import Derived.Test.YthcojmpigdojoaaDoorInRow
import Derived.Test.YthcojmpigdojoaaDoorStr
import Derived.WalkLawsBesides
import Derived.Outline
import Derived.Deep.DeepCutAuto
set_option linter.unusedVariables false
set_option linter.unusedSimpArgs false
namespace Go.Proofs.YthcojmpigdojoaaDoor
open Go Go.RowKit Go.BigFrame
set_option maxRecDepth 100000

theorem Acc.slice' {α : Type} {R : (Nat → Prop) → World → α → List Value → Prop} {sz B : Nat} {e : TypeId} {w : World} {v : Value} {vs : List α} (h : Acc R B e sz w v vs) : ∃ p c, v = .slice p vs.length c ∧ vs.length ≤ c ∧ (p = none → c = 0 ∧ vs.length = 0) := by
  obtain ⟨css, h1, _⟩ := h
  rcases h1.2 with ⟨rfl, h0⟩ | ⟨g, cap, cur, rfl, _, _, hnc, _⟩
  · exact ⟨none, 0, by rw [h0], by omega, fun _ => ⟨rfl, h0⟩⟩
  · exact ⟨_, _, rfl, hnc, fun h => by cases h⟩
/-- A row all of whose parts are the call's own: what they lead to lies in D. -/
def Full {α : Type} (R : (Nat → Prop) → World → α → List Value → Prop) (sz B : Nat) (D : Nat → Prop) (e : TypeId) (w : World) (v : Value) (vs : List α) : Prop :=
  ∃ css : List (List Value), w.ownsRow B e sz v vs.length css.flatten ∧ css.length = vs.length ∧ ∀ i (h : i < vs.length) (h' : i < css.length), R D w vs[i] css[i]
section
variable {α : Type} {R : (Nat → Prop) → World → α → List Value → Prop} {sz : Nat}
theorem Acc.full (hR : Rel R sz) {B : Nat} {e : TypeId} {w : World} {v : Value} {vs : List α} (h : Acc R B e sz w v vs) : Full R sz B (fun b => (B ≤ b ∧ v.ownBlock ≠ some b) ∧ b < w.heap.size) e w v vs := by
  obtain ⟨css, h1, h2, h3⟩ := h
  exact ⟨css, h1, h2, fun i hi hi' => hR.lt (h3 i hi hi')⟩
theorem Full.kept (hR : Rel R sz) {B : Nat} {D D' : Nat → Prop} {e : TypeId} {w w' : World} {v : Value} {vs : List α} (h : Full R sz B D e w v vs) (hD : ∀ b, D b → D' b) (ho : ∀ b, v.ownBlock = some b → w'.heap[b]? = w.heap[b]?) (hw : ∀ b, D b → b < w.heap.size → w'.heap[b]? = w.heap[b]?) : Full R sz B D' e w' v vs := by
  obtain ⟨css, h1, h2, h3⟩ := h
  exact ⟨css, owns_kept h1 ho, h2, fun i hi hi' => hR.kept (h3 i hi hi') hD hw⟩
theorem Full.lt {B : Nat} {D : Nat → Prop} {e : TypeId} {w : World} {v : Value} {vs : List α} (h : Full R sz B D e w v vs) : ∀ k, v.ownBlock = some k → B ≤ k ∧ k < w.heap.size := by
  obtain ⟨css, h1, _⟩ := h
  exact fun k hk => h1.lt k hk
theorem Full.ext (hR : Rel R sz) {B : Nat} {D : Nat → Prop} {e : TypeId} {w w' : World} {v : Value} {vs : List α} (h : Full R sz B D e w v vs) (hb : Below w.heap.size w w') : Full R sz B D e w' v vs := h.kept hR (fun _ h => h) (fun b hb' => hb.block b (h.lt b hb').2) (fun b _ hlt => hb.block b hlt)
theorem Full.slice {B : Nat} {D : Nat → Prop} {e : TypeId} {w : World} {v : Value} {vs : List α} (h : Full R sz B D e w v vs) : ∃ p c, v = .slice p vs.length c ∧ vs.length ≤ c ∧ c ≤ maxLen := by
  obtain ⟨css, h1, _⟩ := h
  rcases h1.2 with ⟨rfl, h0⟩ | ⟨g, cap, cur, rfl, _, _, hnc, hcm, _⟩
  · exact ⟨none, 0, by rw [h0], by omega, Nat.zero_le _⟩
  · exact ⟨_, _, rfl, hnc, hcm⟩
theorem Full.cells (hR : Rel R sz) {B : Nat} {D S : Nat → Prop} {e : TypeId} {w : World} {v : Value} {vs : List α} (h : Full R sz B D e w v vs) (hown : ∀ g, v.ownBlock = some g → S g) (hD : ∀ b, D b → S b) :
    ∃ p c, v = .slice p vs.length c ∧ vs.length ≤ c ∧ c ≤ maxLen ∧ ∀ i (hi : i < vs.length), ∃ g cs, p = some ⟨g, 0, none⟩ ∧ CellsAt S w g (0 + i * sz) cs ∧ R S w vs[i] cs := by
  obtain ⟨css, h1, h2, h3⟩ := h
  have hl : ∀ c ∈ css, c.length = sz := fun c hc => by
    obtain ⟨i, hi, rfl⟩ := List.getElem_of_mem hc
    exact hR.len (h3 i (by omega) hi)
  exact Half.cells (D := D) (S' := fun _ => False) hR ⟨css, h1, h2, hl, fun i hi hi' => ⟨fun _ => h3 i hi hi', fun h => by omega⟩⟩ hown hD
section
variable {P : Program} {ops : Array Oper} {rest : List Oper} {o : Oper} {a : Act} {Q : Exit → Act → World → Prop}
/-- append of one struct that lies in a block. -/
theorem push_full (hR : Rel R sz) {W : World} (B : Nat) (D : Nat → Prop) (hgd : o.guard = none) (s x : Operand) (t e : TypeId) (z : Value) (bytes : Nat)
    (ho : o.op = .call { callee := .builtin .append, args := #[s, x], argTypes := #[t, t] })
    (ht : P.underlying t = some (.slice e)) (hinfo : (P.info? e).map (fun i => (i.zero, i.size, i.bytes)) = some (some z, sz, bytes)) (hz : z.cells.size = sz) (hsz : 0 < sz)
    (v : Value) (vs : List α) (HA : Full R sz B D e W v vs) (hDv : ∀ b, D b → v.ownBlock ≠ some b) (g : Nat) (cs : List Value) (y : α) (hG : IsBlk W g cs.toArray e) (hy : R D W y cs) (hs : a.eval s = v) (hx : a.eval x = .slice (some ⟨g, 0, none⟩) 1 1)
    (hB : B ≤ W.heap.size) (hl : (vs.length + 1) * bytes ≤ 140737488355328) (hl2 : vs.length + 1 ≤ maxLen)
    (h : ∀ g1 cap w1, Full R sz B (fun b => D b ∧ b ≠ g1) e w1 (.slice (some ⟨g1, 0, none⟩) (vs.length + 1) cap) (vs ++ [y]) → W.grownBy w1 v.ownBlock → B ≤ g1 → (v.ownBlock = some g1 ∨ g1 = W.heap.size) → g1 < w1.heap.size → wpList P ops Q rest (a.put o.dst (.slice (some ⟨g1, 0, none⟩) (vs.length + 1) cap)) w1) :
    wpList P ops Q (o :: rest) a W := by
  obtain ⟨i0, hi, hzz⟩ := Option.map_eq_some_iff.1 hinfo
  simp only [Prod.mk.injEq] at hzz
  obtain ⟨hz0, hz1, hz2⟩ := hzz
  obtain ⟨css, h1, h2, h3⟩ := HA
  refine wpList_append_lies W hgd s x t ho B e i0 z sz bytes ht hi hz0 hz1 hz2 hz hsz v vs.length css.flatten hs h1 ⟨g, 0, none⟩ 1 1 cs hx (by rw [hR.len hy]; omega) ?_ (hR.one hy) (by omega) hl2 hl hB W.heap.size rfl ?_
  · intro j u hj
    exact hG.add (o := 0) (by simpa using hj)
  · intro g1 cap w1 hown hg hor hlt
    have hB1 : B ≤ g1 := by
      rcases hor with hor | hor
      · exact (h1.lt g1 hor).1
      · omega
    refine h g1 cap w1 ⟨css ++ [cs], ?_, by simp [h2], fun i hi' hi2 => ?_⟩ hg hB1 hor hlt
    · have : (css ++ [cs]).flatten = css.flatten ++ cs := by simp
      rw [this, List.length_append]
      exact hown
    · have key : ∀ (y : α) (cs : List Value), R D W y cs → R (fun b => D b ∧ b ≠ g1) w1 y cs := fun y cs hr => by
        refine hR.kept (hR.lt hr) (fun b hb => ⟨hb.1, fun e => ?_⟩) (fun b hb hlt => hg.block b hlt (fun e => hDv b hb.1 e.symm))
        subst e
        rcases hor with hor | hor
        · exact hDv _ hb.1 hor
        · have := hb.2
          omega
      rcases Nat.lt_or_ge i vs.length with hlt2 | hge
      · have e1 : (vs ++ [y])[i] = vs[i] := List.getElem_append_left hlt2
        have e2 : (css ++ [cs])[i] = css[i] := List.getElem_append_left (by omega)
        rw [e1, e2]
        exact key _ _ (h3 i hlt2 (by omega))
      · have hie : i = vs.length := by simp at hi'; omega
        subst hie
        have e1 : (vs ++ [y])[vs.length] = y := by simp
        have e2 : (css ++ [cs])[vs.length] = cs := by simp [← h2]
        rw [e1, e2]
        exact key _ _ hy
end
end
set_option maxHeartbeats 4000000 in
theorem insert_end (vs : List (List UInt8 × DVal)) (B : Nat) (v : Value) (y : List UInt8 × DVal) (g : Nat) (cs : List Value) (w : World) (D : Nat → Prop) (HA : Full HasFld 7 B D 38 w v vs) (hDv : ∀ b, D b → v.ownBlock ≠ some b) (hG : IsBlk w g cs.toArray 38) (hy : HasFld D w y cs) (hB : B ≤ w.heap.size) (hn : vs.length ≤ 1073741824) :
    Calls Tryd.prog 33 #[v, .int .i64 (vs.length : Int), .slice (some ⟨g, 0, none⟩) 1 1] w fun e' w' => ∃ g1 cap, e' = .returned (.slice (some ⟨g1, 0, none⟩) (vs.length + 1) cap) ∧ Full HasFld 7 B (fun b => D b ∧ b ≠ g1) 38 w' (.slice (some ⟨g1, 0, none⟩) (vs.length + 1) cap) (vs ++ [y]) ∧ w.grownBy w' v.ownBlock ∧ B ≤ g1 ∧ g1 < w'.heap.size ∧ (v.ownBlock = some g1 ∨ g1 = w.heap.size) := by
  obtain ⟨p, c, rfl, hnc, _⟩ := HA.slice
  have HAC := Lib.hid HA
  have HG := Lib.hid hG
  have HY := Lib.hid hy
  have HDV := Lib.hid hDv
  obtain ⟨n, hnl⟩ : ∃ n, n = vs.length := ⟨_, rfl⟩
  have HN := Lib.hid hnl
  rw [← hnl] at hnc hn ⊢
  have hncI : (n : Int) ≤ (c : Int) := by omega
  have h1I : ¬ ((1 : Int) = 0) := by decide
  clear HA hG hy hDv hnl
  go_enter Tryd.func33, Tryd.ntmps33
  go_wp2_with (at_builtin; refine push_full relF B D rfl _ _ 24 38 (.agg #[.string ⟨#[]⟩, .int .u8 0, .bool false, .int .i64 0, .string ⟨#[]⟩, .slice none 0 0, .slice none 0 0]) 96 rfl Tryd.underlying24 (by kernel_rfl) rfl (by decide) _ vs HAC.out HDV.out g cs y HG.out HY.out (by rw [← HN.out]; rfl) rfl hB (by rw [← HN.out]; omega) (by rw [← HN.out]; unfold maxLen; omega) ?_)
  all_goals
    intro g1 cap w1 hacc hg hB1 hor hlt
    rw [← HN.out] at hacc hg hor ⊢
    have HF := Lib.hid (And.intro hacc (And.intro hg (And.intro hB1 (And.intro hlt hor))))
    clear hacc hg hor hB1 hlt
    go_wp2
    go_ret
    exact ⟨g1, cap, rfl, HF.out.1, by have h := HF.out.2.1; cases p <;> exact h, HF.out.2.2.1, HF.out.2.2.2.1, by have h := HF.out.2.2.2.2; cases p <;> exact h⟩
end Go.Proofs.YthcojmpigdojoaaDoor
