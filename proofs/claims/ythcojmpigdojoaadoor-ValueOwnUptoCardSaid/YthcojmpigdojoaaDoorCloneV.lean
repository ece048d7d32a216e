/- slices.Clone of rows of values and of fields. Conditions: at most 2^30 parts. -/
import Derived.Test.YthcojmpigdojoaaDoorInRow
set_option linter.unusedVariables false
set_option linter.unusedSimpArgs false
namespace Go.Proofs.YthcojmpigdojoaaDoor
open Go Go.RowKit Go.BigFrame
set_option maxRecDepth 100000

set_option maxHeartbeats 4000000 in
theorem cloneValue_any (vs : List DVal) (S : Nat → Prop) (p : Option Addr) (c : Nat) (w : World) (h : RowIn HasVal 6 S w p vs) (hn : vs.length ≤ 1073741824) :
    Calls Tryd.prog 51 #[.slice p vs.length c] w fun e' w' => ∃ v, e' = .returned v ∧ (∀ D, Half HasVal 6 w.heap.size D S 26 w' v vs 0) ∧ Below w.heap.size w w' := by
  obtain ⟨css, h1, h2, h3, h4⟩ := h.css relV (by decide)
  have hfl : css.flatten.length = vs.length * 6 := by
    have := flatten_take h2 css.length (Nat.le_refl _)
    rw [List.take_length] at this
    rw [this, h1]
  have q24 : ∀ (w : World) (a : Option Addr) (n c n' c' : Nat), (binOp .eql 23 (.slice a n c) (.slice none n' c')).run Tryd.prog w = .ok (.bool a.isNone) w := fun w a n c n' c' => Lib.run_eql_slice_nil w _ _ a n c n' c' Tryd.underlying23
  obtain ⟨n, hnl⟩ : ∃ n0, n0 = vs.length := ⟨_, rfl⟩
  have HN := Lib.hid hnl
  rw [← hnl] at hn hfl ⊢
  have H3 := Lib.hid h3
  have H4 := Lib.hid h4
  have H1 := Lib.hid h1
  have H2 := Lib.hid h2
  have HFL := Lib.hid hfl
  have H0 := Lib.hid h
  clear h1 h2 h3 h4 hnl hfl h
  cases p with
  | none =>
    have h0 : n = 0 := by
      rcases Nat.eq_zero_or_pos n with h | h
      · exact h
      · exfalso
        obtain ⟨g, o, cs, q, _⟩ := H0.out 0 (by rw [← HN.out]; exact h)
        cases q
    subst h0
    go_enter Tryd.func51, Tryd.ntmps51
    go_wp2
    go_ret
    have hv : vs = [] := List.eq_nil_of_length_eq_zero HN.out.symm
    exact ⟨_, rfl, fun D => ⟨[], ⟨by rw [hv]; rfl, Or.inl ⟨rfl, by rw [hv]; rfl⟩⟩, by rw [hv]; rfl, (fun c hc => by cases hc), fun i hi => by rw [hv] at hi; simp at hi⟩, Below.refl _ _⟩
  | some ad =>
    have hinfo : (Tryd.prog.info? 26).map (fun i => (i.zero, i.size, i.bytes)) = some (some (.agg #[.int .u8 0, .bool false, .int .i64 0, .string ⟨#[]⟩, .slice none 0 0, .slice none 0 0]), 6, 80) := by kernel_rfl
    obtain ⟨i0, hi, hzz⟩ := Option.map_eq_some_iff.1 hinfo
    simp only [Prod.mk.injEq] at hzz
    obtain ⟨hz0, hz1, hz2⟩ := hzz
    have HI := Lib.hid hi
    have HZ0 := Lib.hid hz0
    have HZ1 := Lib.hid hz1
    have HZ2 := Lib.hid hz2
    clear hinfo hi hz0 hz1 hz2
    go_enter Tryd.func51, Tryd.ntmps51
    go_wp2_with (at_builtin; refine wpList_append_own _ rfl _ _ 23 rfl w.heap.size 26 i0 (.agg #[.int .u8 0, .bool false, .int .i64 0, .string ⟨#[]⟩, .slice none 0 0, .slice none 0 0]) 6 80 Tryd.underlying23 HI.out HZ0.out HZ1.out HZ2.out rfl (by decide) _ _ _ rfl (World.ownsRow_made w #[] 0 (Nat.le_refl _) (Nat.zero_le _) rfl) ad n c css.flatten rfl ?qc1 ?qc2 ?qc3 ?qc4 ?qc5 ?qc6 ?_)
    case qc1 => exact HFL.out
    case qc2 =>
      intro j u hj
      exact Lib.cell?_alloc_some _ (H4.out ad rfl j u hj)
    case qc3 =>
      intro u hu
      obtain ⟨cs, hc, hu⟩ := List.mem_flatten.1 hu
      obtain ⟨i, hi, rfl⟩ := List.getElem_of_mem hc
      exact relV.one (H3.out i (by rw [← H1.out]; exact hi) hi) u hu
    case qc4 => unfold maxLen; omega
    case qc5 => omega
    case qc6 => simp
    intro v' w1 hown hgrow hnil
    have hbw : Below w.heap.size w w1 := ((Below.refl _ w).alloc (Nat.le_refl _) _).grown hgrow (by simp) (by intro k hk; simp [Value.ownBlock] at hk; omega)
    have HBW := Lib.hid hbw
    have hhalf : ∀ D, Half HasVal 6 w.heap.size D S 26 w1 v' vs 0 := by
      refine fun D => ⟨css, by rw [← HN.out]; simpa using hown, H1.out, H2.out, fun i hi hi' => ⟨fun h => by omega, fun _ => relV.kept (H3.out i hi hi') (fun _ h => h) (fun b _ hlt => hbw.block b hlt)⟩⟩
    have HH := Lib.hid hhalf
    clear hown hgrow hnil hbw hhalf
    go_wp2
    go_ret
    exact ⟨_, rfl, HH.out, HBW.out⟩
set_option maxHeartbeats 4000000 in
theorem cloneField_any (vs : List (List UInt8 × DVal)) (S : Nat → Prop) (p : Option Addr) (c : Nat) (w : World) (h : RowIn HasFld 7 S w p vs) (hn : vs.length ≤ 1073741824) :
    Calls Tryd.prog 52 #[.slice p vs.length c] w fun e' w' => ∃ v, e' = .returned v ∧ (∀ D, Half HasFld 7 w.heap.size D S 38 w' v vs 0) ∧ Below w.heap.size w w' := by
  obtain ⟨css, h1, h2, h3, h4⟩ := h.css relF (by decide)
  have hfl : css.flatten.length = vs.length * 7 := by
    have := flatten_take h2 css.length (Nat.le_refl _)
    rw [List.take_length] at this
    rw [this, h1]
  have q24 : ∀ (w : World) (a : Option Addr) (n c n' c' : Nat), (binOp .eql 24 (.slice a n c) (.slice none n' c')).run Tryd.prog w = .ok (.bool a.isNone) w := fun w a n c n' c' => Lib.run_eql_slice_nil w _ _ a n c n' c' Tryd.underlying24
  obtain ⟨n, hnl⟩ : ∃ n0, n0 = vs.length := ⟨_, rfl⟩
  have HN := Lib.hid hnl
  rw [← hnl] at hn hfl ⊢
  have H3 := Lib.hid h3
  have H4 := Lib.hid h4
  have H1 := Lib.hid h1
  have H2 := Lib.hid h2
  have HFL := Lib.hid hfl
  have H0 := Lib.hid h
  clear h1 h2 h3 h4 hnl hfl h
  cases p with
  | none =>
    have h0 : n = 0 := by
      rcases Nat.eq_zero_or_pos n with h | h
      · exact h
      · exfalso
        obtain ⟨g, o, cs, q, _⟩ := H0.out 0 (by rw [← HN.out]; exact h)
        cases q
    subst h0
    go_enter Tryd.func52, Tryd.ntmps52
    go_wp2
    go_ret
    have hv : vs = [] := List.eq_nil_of_length_eq_zero HN.out.symm
    exact ⟨_, rfl, fun D => ⟨[], ⟨by rw [hv]; rfl, Or.inl ⟨rfl, by rw [hv]; rfl⟩⟩, by rw [hv]; rfl, (fun c hc => by cases hc), fun i hi => by rw [hv] at hi; simp at hi⟩, Below.refl _ _⟩
  | some ad =>
    have hinfo : (Tryd.prog.info? 38).map (fun i => (i.zero, i.size, i.bytes)) = some (some (.agg #[.string ⟨#[]⟩, .int .u8 0, .bool false, .int .i64 0, .string ⟨#[]⟩, .slice none 0 0, .slice none 0 0]), 7, 96) := by kernel_rfl
    obtain ⟨i0, hi, hzz⟩ := Option.map_eq_some_iff.1 hinfo
    simp only [Prod.mk.injEq] at hzz
    obtain ⟨hz0, hz1, hz2⟩ := hzz
    have HI := Lib.hid hi
    have HZ0 := Lib.hid hz0
    have HZ1 := Lib.hid hz1
    have HZ2 := Lib.hid hz2
    clear hinfo hi hz0 hz1 hz2
    go_enter Tryd.func52, Tryd.ntmps52
    go_wp2_with (at_builtin; refine wpList_append_own _ rfl _ _ 24 rfl w.heap.size 38 i0 (.agg #[.string ⟨#[]⟩, .int .u8 0, .bool false, .int .i64 0, .string ⟨#[]⟩, .slice none 0 0, .slice none 0 0]) 7 96 Tryd.underlying24 HI.out HZ0.out HZ1.out HZ2.out rfl (by decide) _ _ _ rfl (World.ownsRow_made w #[] 0 (Nat.le_refl _) (Nat.zero_le _) rfl) ad n c css.flatten rfl ?qc1 ?qc2 ?qc3 ?qc4 ?qc5 ?qc6 ?_)
    case qc1 => exact HFL.out
    case qc2 =>
      intro j u hj
      exact Lib.cell?_alloc_some _ (H4.out ad rfl j u hj)
    case qc3 =>
      intro u hu
      obtain ⟨cs, hc, hu⟩ := List.mem_flatten.1 hu
      obtain ⟨i, hi, rfl⟩ := List.getElem_of_mem hc
      exact relF.one (H3.out i (by rw [← H1.out]; exact hi) hi) u hu
    case qc4 => unfold maxLen; omega
    case qc5 => omega
    case qc6 => simp
    intro v' w1 hown hgrow hnil
    have hbw : Below w.heap.size w w1 := ((Below.refl _ w).alloc (Nat.le_refl _) _).grown hgrow (by simp) (by intro k hk; simp [Value.ownBlock] at hk; omega)
    have HBW := Lib.hid hbw
    have hhalf : ∀ D, Half HasFld 7 w.heap.size D S 38 w1 v' vs 0 := by
      refine fun D => ⟨css, by rw [← HN.out]; simpa using hown, H1.out, H2.out, fun i hi hi' => ⟨fun h => by omega, fun _ => relF.kept (H3.out i hi hi') (fun _ h => h) (fun b _ hlt => hbw.block b hlt)⟩⟩
    have HH := Lib.hid hhalf
    clear hown hgrow hnil hbw hhalf
    go_wp2
    go_ret
    exact ⟨_, rfl, HH.out, HBW.out⟩
end Go.Proofs.YthcojmpigdojoaaDoor
