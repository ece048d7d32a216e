/- Put and Drop as plain functions; a struct whose rows are the call's own. No conditions. -/
import Derived.Test.YthcojmpigdojoaaDoorOwnV
import Derived.Test.YthcojmpigdojoaaDoorDel
set_option linter.unusedVariables false
set_option linter.unusedSimpArgs false
namespace Go.Proofs.YthcojmpigdojoaaDoor
open Go Go.RowKit Go.BigFrame
set_option maxRecDepth 100000

def insF (name : List UInt8) (x : DVal) : List (List UInt8 × DVal) → List (List UInt8 × DVal)
  | [] => [(name, x)]
  | p :: f => if isAbove name p.1 then (name, x) :: p :: f else p :: insF name x f
def setF (name : List UInt8) (x : DVal) : List (List UInt8 × DVal) → List (List UInt8 × DVal)
  | [] => []
  | p :: f => if isName name p.1 then (p.1, x) :: f else p :: setF name x f
def putF (name : List UInt8) (x : DVal) (f : List (List UInt8 × DVal)) : List (List UInt8 × DVal) := if (f.any fun p => isName name p.1) = true then setF name x f else insF name x f
def dropF (name : List UInt8) (f : List (List UInt8 × DVal)) : List (List UInt8 × DVal) := f.filter fun q => !isName name q.1
def putV (name : List UInt8) (x : DVal) : DVal → DVal
  | .mk k b n s l f => if k = 6 then .mk k b n s l (putF name x f) else .zero
def dropV (name : List UInt8) : DVal → DVal
  | .mk k b n s l f => if k = 6 then .mk k b n s l (dropF name f) else .zero
theorem any_none {P : List UInt8 → Bool} {f : List (List UInt8 × DVal)} (h : ∀ p ∈ f, P p.1 = false) : (f.any fun p => P p.1) = false := by
  rw [List.any_eq_false]
  intro p hp
  rw [h p hp]; decide
theorem set_idx (name : List UInt8) (x : DVal) : ∀ (f : List (List UInt8 × DVal)) (k : Nat) (h : k < f.length), isName name f[k].1 = true → (∀ p ∈ f.take k, isName name p.1 = false) → setF name x f = f.set k (f[k].1, x)
  | [], k, h, _, _ => by simp at h
  | p :: f, 0, h, h1, _ => by rw [setF, if_pos (show isName name p.1 = true from h1)]; rfl
  | p :: f, k + 1, h, h1, h2 => by
    rw [setF, if_neg (by rw [h2 p (by simp)]; decide), set_idx name x f k (by simpa using h) h1 (fun q hq => h2 q (by rw [List.take_succ_cons]; exact List.mem_cons_of_mem _ hq))]
    rfl
theorem ins_idx (name : List UInt8) (x : DVal) : ∀ (f : List (List UInt8 × DVal)) (k : Nat) (h : k < f.length), isAbove name f[k].1 = true → (∀ p ∈ f.take k, isAbove name p.1 = false) → insF name x f = f.take k ++ (name, x) :: f.drop k
  | [], k, h, _, _ => by simp at h
  | p :: f, 0, h, h1, _ => by rw [insF, if_pos (show isAbove name p.1 = true from h1)]; rfl
  | p :: f, k + 1, h, h1, h2 => by
    rw [insF, if_neg (by rw [h2 p (by simp)]; decide), ins_idx name x f k (by simpa using h) h1 (fun q hq => h2 q (by rw [List.take_succ_cons]; exact List.mem_cons_of_mem _ hq))]
    rfl
theorem ins_end (name : List UInt8) (x : DVal) : ∀ (f : List (List UInt8 × DVal)), (∀ p ∈ f, isAbove name p.1 = false) → insF name x f = f ++ [(name, x)]
  | [], _ => rfl
  | p :: f, h => by
    rw [insF, if_neg (by rw [h p (by simp)]; decide), ins_end name x f (fun q hq => h q (List.mem_cons_of_mem _ hq))]
    rfl
theorem insF_length (name : List UInt8) (x : DVal) : ∀ f, (insF name x f).length = f.length + 1
  | [] => rfl
  | p :: f => by
    rw [insF]
    by_cases h : isAbove name p.1 = true
    · rw [if_pos h]; rfl
    · rw [if_neg h, List.length_cons, insF_length name x f, List.length_cons]
theorem setF_length (name : List UInt8) (x : DVal) : ∀ f, (setF name x f).length = f.length
  | [] => rfl
  | p :: f => by
    rw [setF]
    by_cases h : isName name p.1 = true
    · rw [if_pos h]; rfl
    · rw [if_neg h, List.length_cons, setF_length name x f, List.length_cons]
theorem putF_length (name : List UInt8) (x : DVal) (f : List (List UInt8 × DVal)) : (putF name x f).length ≤ f.length + 1 := by
  unfold putF
  split
  · rw [setF_length]; omega
  · rw [insF_length]; omega
/-- A struct whose rows are the call's own: D is where all lies but the fields' row itself. -/
def StF (B : Nat) (D : Nat → Prop) (w : World) (p1 : Option Addr) (l : List DVal) (v2 : Value) (f : List (List UInt8 × DVal)) : Prop :=
  HasL D w p1 l ∧ Full HasFld 7 B D 38 w v2 f ∧ ∀ z, D z → B ≤ z ∧ v2.ownBlock ≠ some z
theorem StF.kept {B : Nat} {D : Nat → Prop} {w w' : World} {p1 : Option Addr} {l : List DVal} {v2 : Value} {f : List (List UInt8 × DVal)} (h : StF B D w p1 l v2 f) (ho : ∀ b, v2.ownBlock = some b → w'.heap[b]? = w.heap[b]?) (hw : ∀ b, D b → b < w.heap.size → w'.heap[b]? = w.heap[b]?) : StF B D w' p1 l v2 f :=
  ⟨h.1.ext_to (fun _ h => h) hw, h.2.1.kept relF (fun _ h => h) ho hw, h.2.2⟩
theorem StF.ext {B : Nat} {D : Nat → Prop} {w w' : World} {p1 : Option Addr} {l : List DVal} {v2 : Value} {f : List (List UInt8 × DVal)} (h : StF B D w p1 l v2 f) (hb : Below w.heap.size w w') : StF B D w' p1 l v2 f :=
  h.kept (fun b hb' => hb.block b (h.2.1.lt b hb').2) (fun b _ hlt => hb.block b hlt)
theorem StF.more {B : Nat} {D D' : Nat → Prop} {w : World} {p1 : Option Addr} {l : List DVal} {v2 : Value} {f : List (List UInt8 × DVal)} (h : StF B D w p1 l v2 f) (hD : ∀ z, D z → D' z) (hD' : ∀ z, D' z → B ≤ z ∧ v2.ownBlock ≠ some z) : StF B D' w p1 l v2 f :=
  ⟨h.1.ext_to hD (fun _ _ _ => rfl), h.2.1.kept relF hD (fun _ _ => rfl) (fun _ _ _ => rfl), hD'⟩
theorem st_own {B : Nat} {w : World} {cs : List Value} {k : Nat} {b : Bool} {n : Int} {s : List UInt8} {l : List DVal} {f : List (List UInt8 × DVal)} (h : OwnRows B w cs (.mk k b n s l f)) :
    ∃ p1 c1 p2 c2, cs = [.int .u8 (k : Int), .bool b, .int .i64 n, .string (bs s), .slice p1 l.length c1, .slice p2 f.length c2] ∧ l.length ≤ c1 ∧ c1 ≤ maxLen ∧ f.length ≤ c2 ∧ c2 ≤ maxLen ∧ StF B (fun z => (B ≤ z ∧ (Value.slice p2 f.length c2).ownBlock ≠ some z) ∧ z < w.heap.size) w p1 l (.slice p2 f.length c2) f := by
  obtain ⟨p1, c1, v2, rfl, h1, h2, h3, h4⟩ := h
  have h5 := h4.full relF
  obtain ⟨p2, c2, rfl, h6, h7⟩ := h5.slice
  refine ⟨p1, c1, p2, c2, rfl, h1, h2, h6, h7, ?_, h5, fun z hz => hz.1⟩
  intro i hi
  obtain ⟨g, o, cs, q1, q2, q3⟩ := h3 i hi
  exact ⟨g, o, cs, q1, ⟨⟨q2.1, q2.2.1⟩, q2.2⟩, relV.lt q3⟩
theorem st_end {B : Nat} {D : Nat → Prop} {w : World} {p1 p2 : Option Addr} {c1 c2 : Nat} {k : Nat} {b : Bool} {n : Int} {s : List UInt8} {l : List DVal} {f : List (List UInt8 × DVal)} (h : StF B D w p1 l (.slice p2 f.length c2) f)
    (hbd : k < 256 ∧ -9223372036854775808 ≤ n ∧ n ≤ 9223372036854775807 ∧ s.length ≤ 1073741824 ∧ l.length ≤ 1073741824) (hc1 : l.length ≤ c1) (hm1 : c1 ≤ maxLen) (hf : f.length ≤ 1073741824) {S : Nat → Prop} (hS : ∀ z, B ≤ z → S z) :
    HasVal S w (.mk k b n s l f) [.int .u8 (k : Int), .bool b, .int .i64 n, .string (bs s), .slice p1 l.length c1, .slice p2 f.length c2] ∧ OwnRows B w [.int .u8 (k : Int), .bool b, .int .i64 n, .string (bs s), .slice p1 l.length c1, .slice p2 f.length c2] (.mk k b n s l f) := by
  obtain ⟨hL, hF, hD⟩ := h
  obtain ⟨q2, d2, hv2, b3, b4, hc2⟩ := hF.cells relF (S := S) (fun z hz => hS z (hF.lt z hz).1) (fun z hz => hS z (hD z hz).1)
  obtain ⟨e4, _, e6⟩ := Value.slice.inj hv2
  subst e4
  subst e6
  refine ⟨hasVal_mk.2 ⟨_, _, _, _, rfl, ⟨hbd.1, hbd.2.1, hbd.2.2.1, hbd.2.2.2.1, hbd.2.2.2.2, hf, hc1, hm1, b3, b4⟩, hL.ext_to (fun z hz => hS z (hD z hz).1) (fun _ _ _ => rfl), hasF_row.2 (fun i hi => ?_)⟩, p1, c1, _, rfl, hc1, hm1, hL.ext_to hD (fun _ _ _ => rfl), ?_⟩
  · obtain ⟨g, cs, x1, x2, x3⟩ := hc2 i hi
    exact ⟨g, 0, cs, x1, x2, x3⟩
  · obtain ⟨css, h1, h2, h3⟩ := hF
    exact ⟨css, h1, h2, fun i hi hi' => relF.kept (h3 i hi hi') hD (fun _ _ _ => rfl)⟩
theorem own_base' {B B' : Nat} {w : World} {cs : List Value} {v : DVal} (h : OwnRows B w cs v) (hB : B' ≤ B) : OwnRows B' w cs v := by
  obtain ⟨k, b, n, s, l, f⟩ := v
  obtain ⟨p1, c1, v2, e, h1, h2, h3, css, ⟨h4, h5⟩, h6, h7⟩ := h
  refine ⟨p1, c1, v2, e, h1, h2, h3.ext_to (fun z hz => ⟨Nat.le_trans hB hz.1, hz.2⟩) (fun _ _ _ => rfl), css, ⟨h4, ?_⟩, h6, fun i hi hi' => relF.kept (h7 i hi hi') (fun z hz => ⟨Nat.le_trans hB hz.1, hz.2⟩) (fun _ _ _ => rfl)⟩
  rcases h5 with h5 | ⟨g, cap, cur, e1, e2, e3⟩
  · exact .inl h5
  · exact .inr ⟨g, cap, cur, e1, by omega, e3⟩
theorem st_fin {B B' : Nat} {D : Nat → Prop} {w : World} {p1 p2 : Option Addr} {c1 c2 n2 : Nat} {k : Nat} {b : Bool} {n : Int} {s : List UInt8} {l : List DVal} {f : List (List UInt8 × DVal)} (h : StF B D w p1 l (.slice p2 n2 c2) f) (hn : n2 = f.length)
    (hbd : k < 256 ∧ -9223372036854775808 ≤ n ∧ n ≤ 9223372036854775807 ∧ s.length ≤ 1073741824 ∧ l.length ≤ 1073741824) (hc1 : l.length ≤ c1) (hm1 : c1 ≤ maxLen) (hf : f.length ≤ 1073741824) (hB : B' ≤ B) :
    HasVal (fun z => B' ≤ z) w (.mk k b n s l f) [.int .u8 (k : Int), .bool b, .int .i64 n, .string (bs s), .slice p1 l.length c1, .slice p2 n2 c2] ∧ OwnRows B' w [.int .u8 (k : Int), .bool b, .int .i64 n, .string (bs s), .slice p1 l.length c1, .slice p2 n2 c2] (.mk k b n s l f) := by
  subst hn
  have h2 := st_end (b := b) h hbd hc1 hm1 hf (S := fun z => B' ≤ z) (fun z hz => Nat.le_trans hB hz)
  exact ⟨h2.1, own_base' h2.2 hB⟩
/-- A field's value stored anew. -/
theorem Full.setV {B : Nat} {D : Nat → Prop} {w : World} {g n cap i : Nat} {f : List (List UInt8 × DVal)} {x : DVal} {cx : List Value} (h : Full HasFld 7 B D 38 w (.slice (some ⟨g, 0, none⟩) n cap) f) (hi : i < f.length) (hx : HasVal D w x cx) (hD : ∀ z, D z → z ≠ g) :
    Full HasFld 7 B D 38 (w.setCells g (i * 7 + 1) cx) (.slice (some ⟨g, 0, none⟩) n cap) (f.set i (f[i].1, x)) := by
  obtain ⟨css, h1, h2, h3⟩ := h
  have hi' : i < css.length := by omega
  have hl7 : ∀ c ∈ css, c.length = 7 := fun c hc => by
    obtain ⟨j, hj, rfl⟩ := List.getElem_of_mem hc
    exact relF.len (h3 j (by omega) hj)
  rcases h1.2 with ⟨e, _⟩ | ⟨g', cap', cur, hv, hBg, hg, hnc, hcm, hcs, hxs⟩
  · cases e
  · obtain ⟨e1, e2, e3⟩ := Value.slice.inj hv
    obtain rfl : g = g' := by simpa using e1
    subst e2
    subst e3
    obtain ⟨old, hold, hxl, hov⟩ := h3 i hi hi'
    have hgb : IsBlk w g (cur.toList).toArray 38 := by rw [Array.toArray_toList]; exact hg
    have hpad : cur.toList = css.flatten ++ cur.toList.drop (f.length * 7) := by rw [← hxs, List.take_append_drop]
    have hcl := hx.len
    have hgb3 := blk_setCells cx (i * 7 + [Value.string (bs f[i].1)].length) w _ hgb
    rw [hpad, putAt_flat (pre := [.string (bs f[i].1)]) hl7 hi' hold (by simp [hcl])] at hgb3
    have hl' : ∀ c ∈ css.set i ([.string (bs f[i].1)] ++ cx), c.length = 7 := fun c hc => by
      rcases List.mem_or_eq_of_mem_set hc with h | h
      · exact hl7 c h
      · rw [h]; simp [hcl]
    have hfl : ((css.set i ([.string (bs f[i].1)] ++ cx)).flatten).length = f.length * 7 := by
      have := flatten_take hl' (css.set i ([.string (bs f[i].1)] ++ cx)).length (Nat.le_refl _)
      rw [List.take_length, List.length_set] at this
      rw [this, h2]
    have hcur : cur.toList.length = cap * 7 := by simpa using hcs
    have hoth : ∀ b, b ≠ g → (w.setCells g (i * 7 + 1) cx).heap[b]? = w.heap[b]? := fun b hb => other_setCells hb cx _ _
    refine ⟨css.set i ([.string (bs f[i].1)] ++ cx), ?_, by rw [List.length_set, List.length_set, h2], fun j hj hj' => ?_⟩
    · rw [List.length_set]
      refine ⟨hfl, .inr ⟨g, cap, _, rfl, hBg, hgb3, hnc, hcm, ?_, ?_⟩⟩
      · rw [List.size_toArray, List.length_append, hfl, List.length_drop, hcur]
        have h6 : f.length * 7 ≤ cap * 7 := Nat.mul_le_mul_right _ hnc
        omega
      · rw [← hfl]
        exact List.take_left
    · rw [List.length_set] at hj hj'
      by_cases hij : j = i
      · subst hij
        rw [List.getElem_set_self, List.getElem_set_self]
        exact ⟨cx, rfl, hxl, hx.ext_to (fun _ h => h) (fun b hb _ => hoth b (hD b hb))⟩
      · rw [List.getElem_set_ne (fun e => hij e.symm), List.getElem_set_ne (fun e => hij e.symm)]
        exact relF.kept (h3 j hj hj') (fun _ h => h) (fun b hb _ => hoth b (hD b hb))
theorem zero_has' (S : Nat → Prop) (w : World) : HasVal S w .zero [.int .u8 0, .bool false, .int .i64 0, .string (bs []), .slice none 0 0, .slice none 0 0] :=
  hasVal_mk.2 ⟨none, 0, none, 0, rfl, ⟨by omega, by omega, by omega, by simp, by simp, by simp, by simp, by unfold maxLen; omega, by simp, by unfold maxLen; omega⟩, fun i hi => by simp at hi, fun i hi => by simp at hi⟩
theorem own_zero (B : Nat) (w : World) : OwnRows B w [.int .u8 0, .bool false, .int .i64 0, .string (bs []), .slice none 0 0, .slice none 0 0] .zero :=
  ⟨none, 0, .slice none 0 0, rfl, Nat.zero_le _, Nat.zero_le _, fun i hi => by simp at hi, Acc.nil _ _ _⟩
theorem half_of_full {B : Nat} {D : Nat → Prop} {e : TypeId} {w : World} {v : Value} {f : List (List UInt8 × DVal)} (h : Full HasFld 7 B D e w v f) (j : Nat) : Half HasFld 7 B D D e w v f j := by
  obtain ⟨css, h1, h2, h3⟩ := h
  refine ⟨css, h1, h2, fun c hc => ?_, fun i hi hi' => ⟨fun _ => h3 i hi hi', fun _ => h3 i hi hi'⟩⟩
  obtain ⟨i, hi, rfl⟩ := List.getElem_of_mem hc
  exact relF.len (h3 i (by omega) hi)
theorem putF_any {P : List UInt8 → Bool} {f : List (List UInt8 × DVal)} {i : Nat} (hi : i < f.length) (h : P f[i].1 = true) : (f.any fun p => P p.1) = true :=
  List.any_eq_true.2 ⟨f[i], List.getElem_mem hi, h⟩
theorem insert_any (vs : List (List UInt8 × DVal)) (i : Nat) (hi : i ≤ vs.length) (B : Nat) (v : Value) (y : List UInt8 × DVal) (g : Nat) (cs : List Value) (w : World) (D : Nat → Prop) (HA : Full HasFld 7 B D 38 w v vs) (hDv : ∀ b, D b → v.ownBlock ≠ some b) (hG : IsBlk w g cs.toArray 38) (hgv : v.ownBlock ≠ some g) (hy : HasFld D w y cs) (hB : B ≤ w.heap.size) (hn : vs.length ≤ 1073741824) :
    Calls Tryd.prog 33 #[v, .int .i64 (i : Int), .slice (some ⟨g, 0, none⟩) 1 1] w fun e' w' => ∃ g1 cap, e' = .returned (.slice (some ⟨g1, 0, none⟩) (vs.length + 1) cap) ∧ Full HasFld 7 B (fun b => D b ∧ b ≠ g1) 38 w' (.slice (some ⟨g1, 0, none⟩) (vs.length + 1) cap) (vs.take i ++ y :: vs.drop i) ∧ w.grownBy w' v.ownBlock ∧ B ≤ g1 ∧ g1 < w'.heap.size ∧ (v.ownBlock = some g1 ∨ g1 = w.heap.size) := by
  rcases Nat.lt_or_ge i vs.length with h | h
  · exact insert_mid vs i h B v y g cs w D HA hDv hG hgv hy hB hn
  · obtain rfl : i = vs.length := by omega
    rw [List.take_length, List.drop_length]
    exact insert_end vs B v y g cs w D HA hDv hG hy hB hn
end Go.Proofs.YthcojmpigdojoaaDoor
