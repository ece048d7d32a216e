/- append of what a block holds; what an own row holds, cell for cell. No conditions. -/
import Derived.Test.YthcojmpigdojoaaDoorOwn
set_option linter.unusedVariables false
set_option linter.unusedSimpArgs false
namespace Go.Proofs.YthcojmpigdojoaaDoor
open Go Go.RowKit
section
variable {P : Program} {ops : Array Oper} {rest : List Oper} {o : Oper} {a : Act} {Q : Exit → Act → World → Prop}
/-- append of the cells of a block that is known whole. -/
theorem push_at {W : World} (base : Nat) (hgd : o.guard = none) (s x : Operand) (t e : TypeId) (z : Value) (bytes : Nat)
    (ho : o.op = .call { callee := .builtin .append, args := #[s, x], argTypes := #[t, t] })
    (ht : P.underlying t = some (.slice e)) (hinfo : (P.info? e).map (fun i => (i.zero, i.size, i.bytes)) = some (some z, 1, bytes)) (hz : z.cells.size = 1) (hb0 : 0 < bytes)
    (v : Value) (n : Nat) (xs : List Value) (HO : W.ownsRow base e 1 v n xs) (g m : Nat) (news : List Value) (hG : IsBlk W g news.toArray e) (hnl : news.length = m) (hs : a.eval s = v) (hx : a.eval x = .slice (some ⟨g, 0, none⟩) m m) (h1 : ∀ u ∈ news, u.oneCell' = true)
    (hbase : base ≤ W.heap.size) (hl : (n + m) * bytes ≤ 140737488355328)
    (h : ∀ v1 w1, w1.ownsRow base e 1 v1 (n + m) (xs ++ news) → W.grownBy w1 v.ownBlock → wpList P ops Q rest (a.put o.dst v1) w1) :
    wpList P ops Q (o :: rest) a W := by
  obtain ⟨i0, hi, hzz⟩ := Option.map_eq_some_iff.1 hinfo
  simp only [Prod.mk.injEq] at hzz
  obtain ⟨hz0, hz1, hz2⟩ := hzz
  have hlen : n + m ≤ 140737488355328 := Nat.le_trans (Nat.le_mul_of_pos_right _ hb0) hl
  refine wpList_append_own W hgd s x t ho base e i0 z 1 bytes ht hi hz0 hz1 hz2 hz (by omega) v n xs hs HO ⟨g, 0, none⟩ m m news hx (by omega) ?_ h1 (by simp only [maxLen]; omega) hl hbase ?_
  · intro j u hj
    exact hG.add (o := 0) (by simpa using hj)
  · intro v1 w1 hown hg _
    exact h v1 w1 hown hg
end
/-- What a row that the call owns holds, cell for cell. -/
theorem own_open {w : World} {base n : Nat} {e : TypeId} {v : Value} {xs : List Value} (h : w.ownsRow base e 1 v n xs) (hn : 0 < n) :
    ∃ g cap, v = .slice (some ⟨g, 0, none⟩) n cap ∧ base ≤ g ∧ g < w.heap.size ∧ n ≤ cap ∧ ∀ i x, i < n → xs[i]? = some x → w.cell? ⟨g, i, none⟩ = some x := by
  obtain ⟨hl, h⟩ := h
  rcases h with ⟨_, h0⟩ | ⟨g, cap, cur, rfl, hb, hh, hnc, hcm, hcs, hx⟩
  · omega
  · refine ⟨g, cap, rfl, hb, (Array.getElem?_eq_some_iff.1 hh).1, hnc, fun i x hi hxi => ?_⟩
    rw [← hx, List.getElem?_take_of_lt (by omega)] at hxi
    exact (show IsBlk w g cur e from hh).cell (by simpa using hxi)
theorem own_alloc {w : World} {base n : Nat} {e : TypeId} {v : Value} {xs : List Value} (h : w.ownsRow base e 1 v n xs) (o : Obj) : (w.alloc o).ownsRow base e 1 v n xs := own_ext h ((Below.refl _ _).alloc (Nat.le_refl _) o)
theorem own_lit {w : World} {base g : Nat} {e : TypeId} {cs : List Value} {n : Nat} (h : IsBlk w g cs.toArray e) (hb : base ≤ g) (hn : cs.length = n) (hm : n ≤ maxLen) : w.ownsRow base e 1 (.slice (some ⟨g, 0, none⟩) n n) n cs :=
  own_of_blk h hb (Nat.le_refl _) hm (by simpa using hn) (by rw [List.take_of_length_le (by simp; omega)])
section
variable {P : Program} {ops : Array Oper} {T : List Nat} {Q : Exit → Act → World → Prop}
/-- Behind an operation that lays one block: the class of the worlds grown from there. -/
theorem Then.alloc {wr w1 : World} {fuel : Nat} {listed : Array Bool} {a : Act} {o : Obj} (hw1 : Cls wr w1) (h : mixAt P ops T (Cls (w1.alloc o)) Q fuel listed a) : Then P ops T (Cls wr) Q fuel listed a (w1.alloc o) :=
  ⟨Cls (w1.alloc o), Cls.self _, fun x hx => hw1.trans (below_ext ((Below.refl _ _).alloc (Nat.le_refl _) o) hx.below), h⟩
end
end Go.Proofs.YthcojmpigdojoaaDoor
