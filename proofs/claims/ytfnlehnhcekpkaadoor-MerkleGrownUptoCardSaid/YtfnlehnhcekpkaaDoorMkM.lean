/- A map from parts of a tree to digests: what it holds, a lookup, a store. No conditions. -/
import Derived.Test.YtfnlehnhcekpkaaDoorMkC
import Derived.Laws.StructEq
import Derived.MapKept
set_option linter.unusedVariables false
set_option linter.unusedSimpArgs false
namespace Go.Proofs.YtfnlehnhcekpkaaDoor
open Go Go.RowKit
set_option maxRecDepth 100000

abbrev Span := Int × Int
def spanV (k : Span) : Value := .agg #[.int .i64 k.1, .int .i64 k.2]
theorem eqf_cons {P : Program} {d : Nat} {xs ys : Array Value} {f : Field} {fs : List Field} {a b : Value} {r s : Bool} {w : World} (hn : (f.name == "_") = false) (ha : (part f.type xs f.offset).run P w = .ok a w) (hb : (part f.type ys f.offset).run P w = .ok b w) (he : (Op.equalIn d f.type a b).run P w = .ok r w) (hr : (Op.eqFields d xs ys fs).run P w = .ok s w) : (Op.eqFields d xs ys (f :: fs)).run P w = .ok (r && s) w := by
  have hn' : f.name ≠ "_" := by simpa using hn
  rw [Op.eqFields]
  simp only [if_pos hn', Sem.run_bind, ha, hb, he, Result.andThen_ok]
  cases r
  · simp
  · simpa using hr
theorem eqf_nil {P : Program} {d : Nat} {xs ys : Array Value} {w : World} : (Op.eqFields d xs ys []).run P w = .ok true w := by simp [Op.eqFields]
theorem run_eq_span (k k' : Span) (w : World) : (Op.equal 78 (spanV k) (spanV k')).run Tryd.prog w = .ok (k == k') w := by
  have hf : (Tryd.prog.fieldsOf 78).toList.map (fun f => ((f.name == "_"), f.type, f.offset)) = [(false, 3, 0), (false, 3, 1)] := by kernel_rfl
  have q0 : ∀ (a b : Int), (part 3 #[.int .i64 a, .int .i64 b] 0).run Tryd.prog w = .ok (.int .i64 a) w := fun _ _ => by kernel_rfl
  have q1 : ∀ (a b : Int), (part 3 #[.int .i64 a, .int .i64 b] 1).run Tryd.prog w = .ok (.int .i64 b) w := fun _ _ => by kernel_rfl
  have hs : Tryd.prog.underlying 78 = some (.struct (Tryd.prog.fieldsOf 78)) := by kernel_rfl
  obtain ⟨a, b⟩ := k
  obtain ⟨a', b'⟩ := k'
  unfold Op.equal spanV
  rw [show Op.maxDepth = 9999 + 1 from rfl, run_equalIn_struct w 9999 78 _ _ hs (by kernel_rfl)]
  obtain ⟨f0, l0, hl0, h0, hf⟩ := List.map_eq_cons_iff.1 hf
  obtain ⟨f1, l1, rfl, h1, hf⟩ := List.map_eq_cons_iff.1 hf
  obtain rfl := List.map_eq_nil_iff.1 hf
  simp only [Prod.mk.injEq] at h0 h1
  obtain ⟨m0, t0, o0⟩ := h0
  obtain ⟨m1, t1, o1⟩ := h1
  rw [hl0, eqf_cons m0 (by rw [t0, o0]; exact q0 ..) (by rw [t0, o0]; exact q0 ..) (by rw [t0]; exact run_equalIn_int w 9998 3 .i64 .i64 _ _ Tryd.underlying3)
    (eqf_cons m1 (by rw [t1, o1]; exact q1 ..) (by rw [t1, o1]; exact q1 ..) (by rw [t1]; exact run_equalIn_int w 9998 3 .i64 .i64 _ _ Tryd.underlying3) eqf_nil)]
  rw [Bool.and_true]
  rfl
/-- Where a key stands first, and what it has. -/
def look : List (Span × List UInt8) → Span → Option (Nat × List UInt8)
  | [], _ => none
  | p :: L, k => if k == p.1 then some (0, p.2) else (look L k).map fun r => (r.1 + 1, r.2)
def EntsAre (es : List MapEntry) (L : List (Span × List UInt8)) : Prop := es.map (fun e => (e.key, e.val)) = L.map fun p => (spanV p.1, Value.string (bs p.2))
/-- The block is a map that holds just these, in this order. -/
def MapIs (w : World) (b : Nat) (L : List (Span × List UInt8)) : Prop := ∃ es clock, w.heap[b]? = some (.map es clock) ∧ EntsAre es.toList L
def got (L : List (Span × List UInt8)) (k : Span) : Option (List UInt8) := (look L k).map (·.2)
theorem findAsking_run (k : Span) (w : World) : ∀ (es : List MapEntry) (L : List (Span × List UInt8)) (i : Nat), EntsAre es L → (Instr.findAsking 78 (spanV k) es i).run Tryd.prog w = .ok ((look L k).map fun r => (i + r.1, Value.string (bs r.2))) w
  | [], [], i, _ => rfl
  | [], _ :: _, i, h => by simp [EntsAre] at h
  | _ :: _, [], i, h => by simp [EntsAre] at h
  | e :: es, p :: L, i, h => by
    have h2 : e.key = spanV p.1 ∧ e.val = .string (bs p.2) ∧ EntsAre es L := by
      simp only [EntsAre, List.map_cons, List.cons.injEq, Prod.mk.injEq] at h
      exact ⟨h.1.1, h.1.2, h.2⟩
    obtain ⟨hk, hv, ht⟩ := h2
    rw [Instr.findAsking, Sem.run_bind, hk, run_eq_span, Result.andThen_ok, look]
    cases hc : (k == p.1)
    · have ih := findAsking_run k w es L (i + 1) ht
      simp only [Bool.false_eq_true, if_false]
      rw [ih]
      cases look L k with
      | none => rfl
      | some r =>
        show Result.ok (some (i + 1 + r.1, _)) w = Result.ok (some (i + (r.1 + 1), _)) w
        rw [show i + 1 + r.1 = i + (r.1 + 1) by omega]
    · simp only [if_true, hv]
      rfl
theorem checkKey_run (e : Bool) (k : Span) (w : World) : (Instr.checkKey e 10000 78 (spanV k)).run Tryd.prog w = .ok () w := by
  obtain ⟨a, b⟩ := k
  unfold spanV
  cases e <;> kernel_rfl
theorem underK : Tryd.prog.underlying 78 = some (.struct (Tryd.prog.fieldsOf 78)) := by kernel_rfl
theorem findKey_run (k : Span) (w : World) (es : List MapEntry) (L : List (Span × List UInt8)) (h : EntsAre es L) : (Instr.findKey 78 (spanV k) es).run Tryd.prog w = .ok ((look L k).map fun r => (r.1, Value.string (bs r.2))) w := by
  have hk : (underlying 78).run Tryd.prog w = .ok (.struct (Tryd.prog.fieldsOf 78)) w := run_underlying underK w
  unfold Instr.findKey
  rw [Sem.run_bind, hk, Result.andThen_ok]
  cases es with
  | nil => cases L with
    | nil => rfl
    | cons p L => simp [EntsAre] at h
  | cons e es =>
    have hn : Instr.findNow (.struct (Tryd.prog.fieldsOf 78)) (spanV k) (e :: es) 0 = none := rfl
    rw [hn]
    show (Instr.findAsking _ _ _ 0).run _ _ = _
    rw [findAsking_run k w (e :: es) L 0 h]
    cases look L k with
    | none => rfl
    | some r => simp
theorem run_lookup_span (k : Span) (w : World) (b : Nat) (L : List (Span × List UInt8)) (h : MapIs w b L) :
    (Instr.lookup 73 (.map (some b)) (spanV k) false).run Tryd.prog w = .ok (.string (bs ((got L k).getD []))) w := by
  obtain ⟨es, clock, hb, he⟩ := h
  have ht : (underlying 73).run Tryd.prog w = .ok (.map 78 9) w := run_underlying Tryd.underlying73 w
  have hz : (zeroValue 9).run Tryd.prog w = .ok (.string (bs [])) w := by kernel_rfl
  have hg : (getObj b).run Tryd.prog w = .ok (.map es clock) w := MapKept.run_getObj_map hb
  unfold Instr.lookup
  simp only [Sem.run_bind, ht, Result.andThen_ok, hg, Sem.run_pure, checkKey_run, findKey_run k w es.toList L he, got]
  cases look L k with
  | none => simp [hz, Sem.run_bind]
  | some r => simp
theorem look_lt : ∀ {L : List (Span × List UInt8)} {k : Span} {i : Nat} {d : List UInt8}, look L k = some (i, d) → i < L.length ∧ L[i]? = some (k, d)
  | p :: L, k, i, d, h => by
    rw [look] at h
    split at h
    · rename_i hk
      simp only [Option.some.injEq, Prod.mk.injEq] at h
      obtain ⟨rfl, rfl⟩ := h
      rw [eq_of_beq hk]
      exact ⟨by simp, rfl⟩
    · obtain ⟨⟨j, e⟩, h1, h2⟩ := Option.map_eq_some_iff.1 h
      simp only [Prod.mk.injEq] at h2
      obtain ⟨rfl, rfl⟩ := h2
      obtain ⟨h3, h4⟩ := look_lt h1
      exact ⟨by simp; omega, by simpa using h4⟩
theorem got_snoc (L : List (Span × List UInt8)) (k : Span) (d : List UInt8) (hn : look L k = none) (k' : Span) : got (L ++ [(k, d)]) k' = if k' = k then some d else got L k' := by
  induction L with
  | nil =>
    simp only [got, List.nil_append, look]
    by_cases h : k' = k
    · simp [h]
    · simp [h]
  | cons p L ih =>
    rw [look] at hn
    split at hn
    · cases hn
    · rename_i hk
      have hn2 : look L k = none := by simpa using hn
      have ih := ih hn2
      simp only [got, List.cons_append, look] at ih ⊢
      by_cases hp : k' = p.1
      · have : k' ≠ k := fun e => by rw [← e, hp] at hk; simp at hk
        simp [hp, this]
        intro h2
        rw [← h2] at hk
        simp at hk
      · simp only [show (k' == p.1) = false by simpa using hp, Bool.false_eq_true, if_false, Option.map_map]
        simpa [Function.comp_def] using ih
theorem got_set : ∀ (L : List (Span × List UInt8)) (k : Span) (d e : List UInt8) (i : Nat), look L k = some (i, e) → ∀ k', got (L.set i (k, d)) k' = if k' = k then some d else got L k'
  | p :: L, k, d, e, i, h, k' => by
    rw [look] at h
    split at h
    · rename_i hk
      simp only [Option.some.injEq, Prod.mk.injEq] at h
      obtain ⟨rfl, rfl⟩ := h
      have hk := eq_of_beq hk
      simp only [got, List.set_cons_zero, look]
      by_cases h2 : k' = k
      · simp [h2]
      · rw [if_neg h2]
        simp only [show (k' == k) = false by simpa using h2, show (k' == p.1) = false by rw [← hk]; simpa using h2]
        rfl
    · rename_i hk
      obtain ⟨⟨j, e'⟩, h1, h2⟩ := Option.map_eq_some_iff.1 h
      simp only [Prod.mk.injEq] at h2
      obtain ⟨rfl, rfl⟩ := h2
      have ih := got_set L k d e' j h1 k'
      simp only [got, List.set_cons_succ, look] at ih ⊢
      by_cases hp : k' = p.1
      · have hne : k' ≠ k := fun e => by rw [← e, hp] at hk; simp at hk
        simp [hp, hne]
        intro h2
        rw [← h2] at hk
        simp at hk
      · simp only [show (k' == p.1) = false by simpa using hp, Bool.false_eq_true, if_false, Option.map_map]
        simpa [Function.comp_def] using ih
theorem run_update_span (k : Span) (d : List UInt8) (w : World) (b : Nat) (L : List (Span × List UInt8)) (h : MapIs w b L) :
    ∃ L' o, (Instr.mapUpdate 73 (.map (some b)) (spanV k) (.string (bs d))).run Tryd.prog w = .ok () { w with heap := w.heap.setIfInBounds b o } ∧ MapIs { w with heap := w.heap.setIfInBounds b o } b L' ∧ ∀ k', got L' k' = if k' = k then some d else got L k' := by
  obtain ⟨es, clock, hb, he⟩ := h
  have ht : (underlying 73).run Tryd.prog w = .ok (.map 78 9) w := run_underlying Tryd.underlying73 w
  have hg : (getObj b).run Tryd.prog w = .ok (.map es clock) w := MapKept.run_getObj_map hb
  have hlt : b < w.heap.size := (Array.getElem?_eq_some_iff.1 hb).1
  have hnew : ∀ o : Obj, (w.heap.setIfInBounds b o)[b]? = some o := fun o => by rw [Array.getElem?_setIfInBounds_self_of_lt hlt]
  unfold Instr.mapUpdate
  simp only [Sem.run_bind, ht, Result.andThen_ok, hg, checkKey_run, findKey_run k w es.toList L he]
  cases hl : look L k with
  | none =>
    refine ⟨L ++ [(k, d)], .map (es.push { key := spanV k, val := .string (bs d), born := clock }) (clock + 1), ?_, ⟨_, _, hnew _, ?_⟩, got_snoc L k d hl⟩
    · simp only [Option.map_none]
      exact MapKept.run_setObj_map _ hb
    · unfold EntsAre at he ⊢
      simp [he]
  | some r =>
    obtain ⟨i, e⟩ := r
    obtain ⟨hi, hLi⟩ := look_lt hl
    have hes : i < es.size := by
      have := congrArg List.length he
      simp at this
      omega
    have hkey : es[i].key = spanV k := by
      have := congrArg (fun l => l[i]?) he
      simp only [List.getElem?_map, hLi, Array.getElem?_toList, Array.getElem?_eq_getElem hes, Option.map_some, Option.some.injEq, Prod.mk.injEq] at this
      exact this.1
    refine ⟨L.set i (k, d), .map (es.modify i fun e => { e with key := spanV k, val := .string (bs d) }) clock, ?_, ⟨_, _, hnew _, ?_⟩, got_set L k d e i hl⟩
    · simp only [Option.map_some, Sem.run_bind, Array.getElem?_eq_getElem hes, Option.getD_some, hkey]
      have hsame : (Instr.keyThatStays (spanV k) (spanV k)).run Tryd.prog w = .ok (spanV k) w := by
        obtain ⟨a, c⟩ := k
        unfold Instr.keyThatStays spanV
        have : Instr.sameBits 10000 (.agg #[.int .i64 a, .int .i64 c]) (.agg #[.int .i64 a, .int .i64 c]) = true := by simp [Instr.sameBits]
        rw [if_pos this]
        rfl
      rw [hsame, Result.andThen_ok]
      exact MapKept.run_setObj_map _ hb
    · unfold EntsAre at he ⊢
      apply List.ext_getElem?
      intro j
      have hj := congrArg (fun l => l[j]?) he
      simp only [List.getElem?_map, Array.getElem?_toList] at hj ⊢
      rw [Array.getElem?_modify, List.getElem?_set]
      by_cases hij : i = j
      · subst hij
        simp [hes, hi]
      · simp only [if_neg hij]
        exact hj
end Go.Proofs.YtfnlehnhcekpkaaDoor
