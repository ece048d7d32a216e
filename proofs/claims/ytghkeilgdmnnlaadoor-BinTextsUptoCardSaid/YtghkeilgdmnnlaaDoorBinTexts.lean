/- codicillaw03.BinTexts: walk and law. Conditions: the value lies in memory; utf8's tables read as the text lays them. -/
import Derived.Test.YtghkeilgdmnnlaaDoorBinRound
import Derived.Test.YtghkeilgdmnnlaaDoorRefRv
set_option linter.unusedVariables false
set_option linter.unusedSimpArgs false
namespace Go.Proofs.YtghkeilgdmnnlaaDoor
open Go Go.RowKit Go.BigFrame
set_option maxRecDepth 100000

theorem repN_mono {α : Type} {f g : St → α × St} (hfg : ∀ l a rest, f (l, false) = (a, (rest, false)) → g (l, false) = (a, (rest, false))) : ∀ (n : Nat) (l : List UInt8) (zs : List α) (rest : List UInt8), repN f n (l, false) = (zs, (rest, false)) → repN g n (l, false) = (zs, (rest, false))
  | 0, l, zs, rest, h => by rw [repN_zero] at h ⊢; exact h
  | n + 1, l, zs, rest, h => by
    rw [repN_more] at h ⊢
    obtain ⟨a, l2, b2, hfa⟩ : ∃ a l2 b2, f (l, false) = (a, (l2, b2)) := ⟨_, _, _, rfl⟩
    rw [hfa] at h
    simp only [Prod.mk.injEq] at h
    obtain ⟨rfl, h2⟩ := h
    cases b2
    · rw [hfg l a l2 hfa]
      obtain ⟨bs2, l3, b3, hr⟩ : ∃ bs2 l3 b3, repN f n (l2, false) = (bs2, (l3, b3)) := ⟨_, _, _, rfl⟩
      rw [hr] at h2
      simp only [Prod.mk.injEq] at h2
      obtain ⟨rfl, rfl⟩ := h2
      rw [repN_mono hfg n l2 bs2 l3 hr, hr]
    · rw [repN_bad] at h2
      simp at h2
theorem fieldP_mono {k : Nat} {g : St → DVal × St} (hfg : ∀ l a rest, valueP k (l, false) = (a, (rest, false)) → g (l, false) = (a, (rest, false))) (l : List UInt8) (a : List UInt8 × DVal) (rest : List UInt8) (h : fieldP (valueP k) (l, false) = (a, (rest, false))) : fieldP g (l, false) = (a, (rest, false)) := by
  unfold fieldP at h ⊢
  generalize takeP (numP (l, false)).1 (numP (l, false)).2 = q at h ⊢
  obtain ⟨x, l2, b2⟩ := q
  cases b2
  · simp only [] at h ⊢
    obtain ⟨v, l3, b3, hv⟩ : ∃ v l3 b3, valueP k (l2, false) = (v, (l3, b3)) := ⟨_, _, _, rfl⟩
    rw [hv] at h
    simp only [Prod.mk.injEq] at h
    obtain ⟨rfl, rfl, rfl⟩ := h
    rw [hfg _ _ _ hv]
  · have := valueP_bad k l2
    simp only [Prod.mk.injEq] at h
    rw [h.2] at this
    cases this
theorem valueP_mono : ∀ (k : Nat) (l : List UInt8) (v : DVal) (rest : List UInt8), valueP k (l, false) = (v, (rest, false)) → valueP (k + 1) (l, false) = (v, (rest, false)) := by
  intro k
  induction k with
  | zero => intro l v rest h; rw [valueP] at h; simp at h
  | succ k ih =>
    intro l v rest h
    cases l with
    | nil => rw [valueP, if_neg (by decide)] at h; simp at h
    | cons b l =>
      rw [valueP, if_neg (by decide)] at h
      rw [valueP, if_neg (by decide)]
      by_cases h0 : b = 0
      · rw [if_pos h0] at h ⊢; exact h
      rw [if_neg h0] at h ⊢
      by_cases h1 : b = 1
      · rw [if_pos h1] at h ⊢; exact h
      rw [if_neg h1] at h ⊢
      by_cases h2 : b = 2
      · rw [if_pos h2] at h ⊢; exact h
      rw [if_neg h2] at h ⊢
      by_cases h3 : b = 3
      · rw [if_pos h3] at h ⊢; exact h
      rw [if_neg h3] at h ⊢
      by_cases h4 : b = 4
      · rw [if_pos h4] at h ⊢; exact h
      rw [if_neg h4] at h ⊢
      by_cases h5 : b = 5
      · rw [if_pos h5] at h ⊢; exact h
      rw [if_neg h5] at h ⊢
      by_cases h6 : b = 6
      · rw [if_pos h6] at h ⊢
        generalize manyP (l, false) = q at h ⊢
        obtain ⟨m, l2, b2⟩ := q
        cases b2
        · simp only [] at h ⊢
          obtain ⟨vs, l3, b3, hr⟩ : ∃ vs l3 b3, repN (valueP k) m (l2, false) = (vs, (l3, b3)) := ⟨_, _, _, rfl⟩
          rw [hr] at h
          simp only [Prod.mk.injEq] at h
          obtain ⟨rfl, rfl, rfl⟩ := h
          rw [repN_mono ih m l2 vs _ hr]
        · simp only [repN_bad] at h
          simp at h
      rw [if_neg h6] at h ⊢
      by_cases h7 : b = 7
      · rw [if_pos h7] at h ⊢
        generalize manyP (l, false) = q at h ⊢
        obtain ⟨m, l2, b2⟩ := q
        cases b2
        · simp only [] at h ⊢
          obtain ⟨vs, l3, b3, hr⟩ : ∃ vs l3 b3, repN (fieldP (valueP k)) m (l2, false) = (vs, (l3, b3)) := ⟨_, _, _, rfl⟩
          rw [hr] at h
          simp only [Prod.mk.injEq] at h
          obtain ⟨rfl, rfl, rfl⟩ := h
          rw [repN_mono (fieldP_mono ih) m l2 vs _ hr]
        · simp only [repN_bad] at h
          simp at h
      rw [if_neg h7] at h
      simp at h
theorem repN_mem {α : Type} {p : α → Prop} {f : St → α × St} (hf : ∀ st, p (f st).1) : ∀ (n : Nat) (st : St), ∀ a ∈ (repN f n st).1, p a
  | 0, st, a, h => by rw [repN_zero] at h; cases h
  | n + 1, (l, false), a, h => by
    rw [repN_more] at h
    rcases List.mem_cons.1 h with rfl | h
    · exact hf _
    · exact repN_mem hf n _ a h
  | n + 1, (l, true), a, h => by rw [repN_bad] at h; cases h
theorem valueP_rng : ∀ (k : Nat) (st : St), rngV (valueP k st).1 := by
  intro k
  have hz : rngV .zero := ⟨⟨by decide, by decide⟩, trivial, trivial⟩
  induction k with
  | zero => intro st; exact hz
  | succ k ih =>
    rintro ⟨l, bad⟩
    cases bad
    · cases l with
      | nil => exact hz
      | cons b l =>
        rw [valueP, if_neg (by decide)]
        have hzz := zagN_range (numP (l, false)).1 (numP_lt _)
        by_cases h0 : b = 0
        · rw [if_pos h0]; exact hz
        rw [if_neg h0]
        by_cases h1 : b = 1
        · rw [if_pos h1]; exact ⟨⟨by decide, by decide⟩, trivial, trivial⟩
        rw [if_neg h1]
        by_cases h2 : b = 2
        · rw [if_pos h2]; exact ⟨⟨by decide, by decide⟩, trivial, trivial⟩
        rw [if_neg h2]
        by_cases h3 : b = 3
        · rw [if_pos h3]; exact ⟨hzz, trivial, trivial⟩
        rw [if_neg h3]
        by_cases h4 : b = 4
        · rw [if_pos h4]; exact ⟨⟨by decide, by decide⟩, trivial, trivial⟩
        rw [if_neg h4]
        by_cases h5 : b = 5
        · rw [if_pos h5]; exact ⟨⟨by decide, by decide⟩, trivial, trivial⟩
        rw [if_neg h5]
        by_cases h6 : b = 6
        · rw [if_pos h6]; exact ⟨⟨by decide, by decide⟩, rngL_mk (repN_mem ih _ _), trivial⟩
        rw [if_neg h6]
        by_cases h7 : b = 7
        · rw [if_pos h7]; exact ⟨⟨by decide, by decide⟩, trivial, rngF_mk (repN_mem (p := fun p : List UInt8 × DVal => rngV p.2) (fun st => ih _) _ _)⟩
        rw [if_neg h7]
        exact hz
    · exact hz
/-- The reference reads what the program reads. -/
theorem rdR_eq (s : List UInt8) : rdR s = rdV s := by
  rw [rdR, rdV]
  by_cases h16 : 16384 < s.length
  · rw [if_pos h16, if_pos h16]
  rw [if_neg h16, if_neg h16]
  obtain ⟨v, rest, bad, hv⟩ : ∃ v rest bad, valueP 7 (s, false) = (v, (rest, bad)) := ⟨_, _, _, rfl⟩
  obtain ⟨v2, rest2, bad2, hv2⟩ : ∃ v rest bad, valueP 11 (s, false) = (v, (rest, bad)) := ⟨_, _, _, rfl⟩
  rw [hv, hv2]
  simp only []
  by_cases h1 : bad = true ∨ rest ≠ [] ∨ checkV 0 v ≠ 0
  · rw [if_pos h1]
    by_cases h2 : bad2 = true ∨ rest2 ≠ [] ∨ checkV 0 v2 ≠ 0
    · rw [if_pos h2]
    · exfalso
      have hb2 : bad2 = false := by cases bad2 <;> simp_all
      have hr2 : rest2 = [] := by
        rcases rest2 with _ | ⟨a, l⟩
        · rfl
        · exact absurd (Or.inr (Or.inl (by simp))) h2
      have hc2 : checkV 0 v2 = 0 := by
        by_cases hc : checkV 0 v2 = 0
        · exact hc
        · exact absurd (Or.inr (Or.inr hc)) h2
      subst hb2 hr2
      have hinv := valueP_inv 11 s v2 [] hv2
      rw [List.append_nil] at hinv
      have hrng : rngV v2 := by have := valueP_rng 11 (s, false); rwa [hv2] at this
      have hrt := rtV v2 0 7 hc2 hrng rfl (by omega) []
      rw [List.append_nil, hinv, hv] at hrt
      simp only [Prod.mk.injEq] at hrt
      obtain ⟨rfl, rfl, rfl⟩ := hrt
      rcases h1 with h | h | h
      · cases h
      · exact h rfl
      · exact h hc2
  · rw [if_neg h1]
    have hb : bad = false := by cases bad <;> simp_all
    subst hb
    have h8 := valueP_mono 7 s v rest hv
    have h9 := valueP_mono 8 s v rest h8
    have h10 := valueP_mono 9 s v rest h9
    have h11 := valueP_mono 10 s v rest h10
    rw [hv2] at h11
    simp only [Prod.mk.injEq] at h11
    obtain ⟨rfl, rfl, rfl⟩ := h11
    rw [if_neg h1]
set_option maxHeartbeats 4000000 in
theorem texts_any (v : DVal) (S : Nat → Prop) (cs : List Value) (w : World) (hv : HasVal S w v cs) (hT : U8T w) (hbv : bulkV v ≤ 1048576) (s : List UInt8) (hs : s.length ≤ 1048576) :
    Calls Tryd.prog 3 #[.agg cs.toArray, .string (bs s)] w fun e' w' => e' = .returned (.bool true) ∧ Below w.heap.size w w' := by
  have HV := Lib.hid hv
  have HT := Lib.hid hT
  clear hT
  have hsz := bs_size s
  obtain ⟨V, hV⟩ : ∃ V, V = v := ⟨_, rfl⟩
  rw [← hV] at HV hbv
  have htv := tlV V
  obtain ⟨sv, yv, hwv⟩ : ∃ sv yv, wrP V = (sv, yv) := ⟨_, _, rfl⟩
  obtain ⟨VS, yS, hrs⟩ : ∃ VS yS, rdV s = (VS, yS) := ⟨_, _, rfl⟩
  have HTV : Hid ((textV V).length ≤ 1099511627776) := Lib.hid (by omega)
  have HWV := Lib.hid hwv
  have HRS := Lib.hid hrs
  clear htv hwv hrs hbv
  obtain ⟨k1, b1, n1, s1, l1, f1⟩ := v
  obtain ⟨pl1, cl1, pf1, cf1, rfl, hrr⟩ := hasVal_mk.1 hv
  clear hv hV hrr
  show Calls Tryd.prog 3 #[.agg #[.int .u8 (k1 : Int), .bool b1, .int .i64 n1, .string (bs s1), .slice pl1 l1.length cl1, .slice pf1 f1.length cf1], .string (bs s)] w _
  go_enter Tryd.func3, Tryd.ntmps3
  go_upto_region 1 with (fail)
  generalize hW0 : World.alloc w _ = W0
  have hd1 : IsBlk W0 w.heap.size #[.int .u8 (k1 : Int), .bool b1, .int .i64 n1, .string (bs s1), .slice pl1 l1.length cl1, .slice pf1 f1.length cf1] 26 := by rw [← hW0]; exact IsBlk.new _ _ _
  have hb0 : Below w.heap.size w W0 := by rw [← hW0]; exact (Below.refl _ _).alloc (Nat.le_refl _) _
  clear hW0
  have c0 := hd1.cell (i := 0) rfl
  have c1 := hd1.cell (i := 1) rfl
  have c2 := hd1.cell (i := 2) rfl
  have c3 := hd1.cell (i := 3) rfl
  have c4 := hd1.cell (i := 4) rfl
  have c5 := hd1.cell (i := 5) rfl
  have HD0 := Lib.hid hd1
  have HB0 := Lib.hid hb0
  clear hd1 hb0
  go_wp2_with fail
  go_at_call 10
  refine (write_any V S _ _ (HV.out.ext HB0.out) (U8T_ext HT.out HB0.out) HTV.out).mono ?_
  rintro e' w1 ⟨he, hb⟩
  rw [HWV.out] at he
  subst he
  have hd1 := HD0.out.ext hb
  have HB1 := Lib.hid (below_ext HB0.out hb)
  clear hb c0 c1 c2 c3 c4 c5
  have c0 := hd1.cell (i := 0) rfl
  have c1 := hd1.cell (i := 1) rfl
  have c2 := hd1.cell (i := 2) rfl
  have c3 := hd1.cell (i := 3) rfl
  have c4 := hd1.cell (i := 4) rfl
  have c5 := hd1.cell (i := 5) rfl
  clear hd1
  go_wp2_with fail
  go_at_call 11
  refine (ref_write_any V S _ _ (HV.out.ext HB1.out) HTV.out).mono ?_
  rintro e' w2 ⟨he, hb⟩
  rw [HWV.out] at he
  subst he
  have HB2 := Lib.hid (below_ext HB1.out hb)
  clear hb c0 c1 c2 c3 c4 c5
  go_wp2_with fail
  go_at_call 12
  refine (read_any s w2 (U8T_ext HT.out HB2.out) (by omega)).mono ?_
  rintro e' w3 ⟨cs, he, hval, hb⟩
  rw [HRS.out] at he hval
  subst he
  have HB3 := Lib.hid (below_ext HB2.out hb)
  have HV3 := Lib.hid hval
  obtain ⟨V3, hV3⟩ : ∃ V3, V3 = VS := ⟨_, rfl⟩
  rw [← hV3] at hval
  obtain ⟨k3, b3, n3, s3, l3, f3⟩ := V3
  obtain ⟨pl3, cl3, pf3, cf3, rfl, hrr⟩ := hasVal_mk.1 hval
  clear hval hb hrr hV3
  go_upto_region 4 with (fail)
  generalize hW4 : World.alloc w3 _ = W4
  have hd4 : IsBlk W4 w3.heap.size #[.int .u8 (k3 : Int), .bool b3, .int .i64 n3, .string (bs s3), .slice pl3 l3.length cl3, .slice pf3 f3.length cf3] 26 := by rw [← hW4]; exact IsBlk.new _ _ _
  have hb4 : Below w3.heap.size w3 W4 := by rw [← hW4]; exact (Below.refl _ _).alloc (Nat.le_refl _) _
  clear hW4
  have HV4 := Lib.hid (HV3.out.ext hb4)
  have HB4 := Lib.hid (below_ext HB3.out hb4)
  have HD4 := Lib.hid hd4
  clear hb4 hd4
  go_wp2_with fail
  go_at_call 13
  refine (ref_read_any s W4 (by omega)).mono ?_
  rintro e' w5 ⟨cs, he, hval, hb⟩
  rw [rdR_eq, HRS.out] at he hval
  subst he
  have HD5 := Lib.hid (HD4.out.ext hb)
  have HV5 := Lib.hid (HV4.out.ext hb)
  have HB5 := Lib.hid (below_ext HB4.out hb)
  have HX5 := Lib.hid hval
  obtain ⟨V6, hV6⟩ : ∃ V6, V6 = VS := ⟨_, rfl⟩
  rw [← hV6] at hval
  obtain ⟨k6, b6, n6, s6, l6, f6⟩ := V6
  obtain ⟨pl6, cl6, pf6, cf6, rfl, hrr⟩ := hasVal_mk.1 hval
  clear hval hb hrr hV6
  go_upto_region 5 with (fail)
  generalize hW6 : World.alloc w5 _ = W6
  have hd6 : IsBlk W6 w5.heap.size #[.int .u8 (k6 : Int), .bool b6, .int .i64 n6, .string (bs s6), .slice pl6 l6.length cl6, .slice pf6 f6.length cf6] 26 := by rw [← hW6]; exact IsBlk.new _ _ _
  have hb6 : Below w5.heap.size w5 W6 := by rw [← hW6]; exact (Below.refl _ _).alloc (Nat.le_refl _) _
  clear hW6
  have HV6 := Lib.hid (HV5.out.ext hb6)
  have HX6 := Lib.hid (HX5.out.ext hb6)
  have HB6 := Lib.hid (below_ext HB5.out hb6)
  have HD6 := Lib.hid hd6
  have HE6 := Lib.hid (HD5.out.ext hb6)
  clear hb6 hd6
  have hss : ((bs sv).toList == (bs sv).toList) = true := beq_self_eq_true _
  have hyy : (yv == yv) = true := beq_self_eq_true _
  have hyS : (yS == yS) = true := beq_self_eq_true _
  go_wp2_with fail
  go_at_call 14
  refine (lives_any _ (U8T_ext HT.out HB6.out)).mono ?_
  rintro e' w7 ⟨rfl, hb⟩
  have hd7 := HD6.out.ext hb
  have he7 := HE6.out.ext hb
  have HV7 := Lib.hid (HV6.out.ext hb)
  have HX7 := Lib.hid (HX6.out.ext hb)
  have HB7 := Lib.hid (below_ext HB6.out hb)
  have d0 := hd7.cell (i := 0) rfl
  have d1 := hd7.cell (i := 1) rfl
  have d2 := hd7.cell (i := 2) rfl
  have d3 := hd7.cell (i := 3) rfl
  have d4 := hd7.cell (i := 4) rfl
  have d5 := hd7.cell (i := 5) rfl
  have e0 := he7.cell (i := 0) rfl
  have e1 := he7.cell (i := 1) rfl
  have e2 := he7.cell (i := 2) rfl
  have e3 := he7.cell (i := 3) rfl
  have e4 := he7.cell (i := 4) rfl
  have e5 := he7.cell (i := 5) rfl
  clear hb hd7 he7
  go_wp2_with fail
  go_at_call 15
  refine (ref_same_any VS VS _ _ _ _ w7 HV7.out HX7.out).mono ?_
  rintro e' w8 ⟨he, hb⟩
  rw [(sameV_iff _ _).2 rfl] at he
  subst he
  have HB8 := Lib.hid (below_ext HB7.out hb)
  clear hb d0 d1 d2 d3 d4 d5 e0 e1 e2 e3 e4 e5
  go_wp2
  go_ret
  exact ⟨rfl, HB8.out⟩
end Go.Proofs.YtghkeilgdmnnlaaDoor
