/- codicillaw03.BinAlike: walk and law. Conditions: both values lie in memory; utf8's tables read as the text lays them. -/
import Derived.Test.YtghkeilgdmnnlaaDoorBinRound
import Derived.Test.YtghkeilgdmnnlaaDoorCmpV
import Derived.Test.YtghkeilgdmnnlaaDoorSameV
set_option linter.unusedVariables false
set_option linter.unusedSimpArgs false
namespace Go.Proofs.YtghkeilgdmnnlaaDoor
open Go Go.RowKit Go.BigFrame
set_option maxRecDepth 100000

theorem orC_0 {a b : Int} (h : orC a b = 0) : a = 0 ∧ b = 0 := by
  unfold orC at h
  split at h
  · exact ⟨by assumption, h⟩
  · exact absurd h (by assumption)
theorem cmpI_0 {a b : Int} (h : cmpI a b = 0) : a = b := by
  unfold cmpI at h
  split at h
  · cases h
  · split at h
    · cases h
    · omega
theorem cmpI_refl (a : Int) : cmpI a a = 0 := by simp [cmpI]
theorem cmpS_0 {x y : List UInt8} (h : cmpS x y = 0) : x = y := by
  unfold cmpS at h
  split at h
  · cases h
  · split at h
    · cases h
    · exact bytesLess_conn x y (by simp_all) (by simp_all)
theorem cmpS_refl (x : List UInt8) : cmpS x x = 0 := by simp [cmpS, bytesLess_irrefl]
mutual
theorem cmpV_refl : ∀ a : DVal, cmpV a a = 0
  | .mk k b n s l f => by
    rw [cmpV, if_neg (by simp), cmpL_refl l, cmpF_refl f, cmpS_refl, cmpI_refl]
    repeat' split
    all_goals first | rfl | simp_all
theorem cmpL_refl : ∀ l : List DVal, cmpL l l = 0
  | [] => by rw [cmpL]
  | a :: l => by rw [cmpL, cmpV_refl a, cmpL_refl l]; rfl
theorem cmpF_refl : ∀ l : List (List UInt8 × DVal), cmpF l l = 0
  | [] => by rw [cmpF]
  | (x, a) :: l => by rw [cmpF, cmpV_refl a, cmpF_refl l, cmpS_refl]; rfl
end
mutual
theorem cmpV_eq : ∀ (a b : DVal) (d e : Nat), checkV d a = 0 → checkV e b = 0 → cmpV a b = 0 → a = b
  | .mk k1 b1 n1 s1 l1 f1, .mk k2 b2 n2 s2 l2 f2, d, e, ha, hb, h => by
    rw [checkV] at ha hb
    obtain ⟨a0, a1⟩ := orE_0 ha
    obtain ⟨aL, aF⟩ := orE_0 a1
    obtain ⟨c0, c1⟩ := orE_0 hb
    obtain ⟨cL, cF⟩ := orE_0 c1
    obtain ⟨ak, abare, _⟩ := why0_ok a0
    obtain ⟨ck, cbare, _⟩ := why0_ok c0
    obtain ⟨p1, p2, p3, p4, p5⟩ := bare_shape abare
    obtain ⟨q1, q2, q3, q4, q5⟩ := bare_shape cbare
    rw [cmpV] at h
    by_cases hk : k1 = k2
    · subst hk
      rw [if_neg (by simp)] at h
      have l0 : k1 ≠ 5 → l1 = l2 := fun hk => by rw [List.eq_nil_of_length_eq_zero (p4 hk), List.eq_nil_of_length_eq_zero (q4 hk)]
      have f0 : k1 ≠ 6 → f1 = f2 := fun hk => by rw [List.eq_nil_of_length_eq_zero (p5 hk), List.eq_nil_of_length_eq_zero (q5 hk)]
      have b0 : k1 ≠ 1 → b1 = b2 := fun hk => by rw [p1 hk, q1 hk]
      have n0 : k1 ≠ 2 → n1 = n2 := fun hk => by rw [p2 hk, q2 hk]
      have s0 : k1 ≠ 3 → k1 ≠ 4 → s1 = s2 := fun hk hk4 => by rw [p3 hk hk4, q3 hk hk4]
      have hk7 : k1 < 7 := by omega
      have hbb : b1 = b2 := by
        by_cases h1 : k1 = 1
        · rw [if_pos h1] at h
          cases b1 <;> cases b2 <;> simp at h ⊢
        · exact b0 h1
      have hnn : n1 = n2 := by
        by_cases h2 : k1 = 2
        · rw [if_neg (by omega), if_pos h2] at h; exact cmpI_0 h
        · exact n0 h2
      have hss : s1 = s2 := by
        by_cases h3 : k1 = 3 ∨ k1 = 4
        · rw [if_neg (by omega), if_neg (by omega), if_pos h3] at h; exact cmpS_0 h
        · exact s0 (by omega) (by omega)
      have hll : l1 = l2 := by
        by_cases h5 : k1 = 5
        · rw [if_neg (by omega), if_neg (by omega), if_neg (by omega), if_pos h5] at h; exact cmpL_eq l1 l2 _ _ aL cL h
        · exact l0 h5
      have hff : f1 = f2 := by
        by_cases h6 : k1 = 6
        · rw [if_neg (by omega), if_neg (by omega), if_neg (by omega), if_neg (by omega), if_pos h6] at h; exact cmpF_eq f1 f2 _ _ _ _ aF cF h
        · exact f0 h6
      rw [hbb, hnn, hss, hll, hff]
    · rw [if_pos hk] at h
      have := cmpI_0 h
      exact absurd (by omega) hk
theorem cmpL_eq : ∀ (l m : List DVal) (d e : Nat), checkL d l = 0 → checkL e m = 0 → cmpL l m = 0 → l = m
  | [], [], _, _, _, _, _ => rfl
  | [], _ :: _, _, _, _, _, h => by rw [cmpL] at h; cases h
  | _ :: _, [], _, _, _, _, h => by rw [cmpL] at h; cases h
  | a :: l, b :: m, d, e, ha, hb, h => by
    rw [checkL] at ha hb
    rw [cmpL] at h
    obtain ⟨h1, h2⟩ := orC_0 h
    rw [cmpV_eq a b d e (orE_0 ha).1 (orE_0 hb).1 h1, cmpL_eq l m d e (orE_0 ha).2 (orE_0 hb).2 h2]
theorem cmpF_eq : ∀ (l m : List (List UInt8 × DVal)) (d e : Nat) (x y : List UInt8), checkF d x l = 0 → checkF e y m = 0 → cmpF l m = 0 → l = m
  | [], [], _, _, _, _, _, _, _ => rfl
  | [], _ :: _, _, _, _, _, _, _, h => by rw [cmpF] at h; cases h
  | (_, _) :: _, [], _, _, _, _, _, _, h => by rw [cmpF] at h; cases h
  | (u, a) :: l, (v, b) :: m, d, e, x, y, ha, hb, h => by
    rw [checkF] at ha hb
    rw [cmpF] at h
    obtain ⟨h1, h2⟩ := orC_0 h
    obtain ⟨h3, h4⟩ := orC_0 h1
    have ha2 := orE_0 (orE_0 ha).2
    have hb2 := orE_0 (orE_0 hb).2
    rw [cmpS_0 h3, cmpV_eq a b d e ha2.1 hb2.1 h4, cmpF_eq l m d e u v ha2.2 hb2.2 h2]
end
theorem wrP_txt {A : DVal} (h : (wrP A).2 = 0) : checkV 0 A = 0 ∧ (wrP A).1 = textV A ∧ (textV A).length ≤ 16384 := by
  unfold wrP at h ⊢
  by_cases hc : checkV 0 A = 0
  · rw [if_neg (by simpa using hc)] at h ⊢
    by_cases hl : 16384 < (textV A).length
    · rw [if_pos hl] at h; cases h
    · rw [if_neg hl]; exact ⟨hc, rfl, by omega⟩
  · rw [if_pos hc] at h; exact absurd h hc
/-- Texts that are alike, and texts that begin with one another. -/
theorem alike_texts {A B : DVal} (hA : (wrP A).2 = 0) (hB : (wrP B).2 = 0) (rA : rngV A) (rB : rngV B) :
    ((wrP A).1 = (wrP B).1 ↔ A = B) ∧ (cmpV A B = 0 ↔ A = B) ∧ ((wrP B).1.take (wrP A).1.length = (wrP A).1 → A = B) := by
  obtain ⟨cA, tA, _⟩ := wrP_txt hA
  obtain ⟨cB, tB, _⟩ := wrP_txt hB
  rw [tA, tB]
  have hpre : (textV B).take (textV A).length = textV A → A = B := fun h => by
    have h1 := rtV A 0 7 cA rA rfl (by omega) ((textV B).drop (textV A).length)
    have h2 := rtV B 0 7 cB rB rfl (by omega) []
    have h3 : textV A ++ (textV B).drop (textV A).length = textV B := by
      conv => lhs; lhs; rw [← h]
      exact List.take_append_drop _ _
    rw [h3] at h1
    rw [List.append_nil] at h2
    rw [h1] at h2
    exact (Prod.mk.inj h2).1
  refine ⟨⟨fun h => hpre (by rw [← h, List.take_length]), fun h => by rw [h]⟩, ⟨fun h => cmpV_eq A B 0 0 cA cB h, fun h => by rw [h]; exact cmpV_refl B⟩, hpre⟩
set_option maxHeartbeats 4000000 in
theorem alike_any (u v : DVal) (S S' : Nat → Prop) (cs ds : List Value) (w : World) (hu : HasVal S w u cs) (hv : HasVal S' w v ds) (hT : U8T w) (hbu : bulkV u ≤ 1048576) (hbv : bulkV v ≤ 1048576) :
    Calls Tryd.prog 9 #[.agg cs.toArray, .agg ds.toArray] w fun e' w' => e' = .returned (.bool true) ∧ Below w.heap.size w w' := by
  have HU := Lib.hid hu
  have HV := Lib.hid hv
  have HT := Lib.hid hT
  clear hT
  have htu := tlV u
  have htv := tlV v
  have HTU : Hid ((textV u).length ≤ 1099511627776) := Lib.hid (by omega)
  have HTV : Hid ((textV v).length ≤ 1099511627776) := Lib.hid (by omega)
  have HAL0 := Lib.hid (fun hA hB => alike_texts (A := u) (B := v) hA hB hu.rng hv.rng)
  clear htu htv hbu hbv
  obtain ⟨sa, ya, hwa⟩ : ∃ s y, wrP u = (s, y) := ⟨_, _, rfl⟩
  obtain ⟨sb, yb, hwb⟩ : ∃ s y, wrP v = (s, y) := ⟨_, _, rfl⟩
  have hal := HAL0.out
  clear HAL0
  rw [hwa, hwb] at hal
  simp only [] at hal
  have hla : ya = 0 → sa.length ≤ 16384 := fun h => by have := wrP_txt (A := u) (by rw [hwa]; exact h); rw [← this.2.1, hwa] at this; exact this.2.2
  have hlb : yb = 0 → sb.length ≤ 16384 := fun h => by have := wrP_txt (A := v) (by rw [hwb]; exact h); rw [← this.2.1, hwb] at this; exact this.2.2
  have HAL := Lib.hid hal
  have HWA := Lib.hid hwa
  have HWB := Lib.hid hwb
  have HLA := Lib.hid hla
  have HLB := Lib.hid hlb
  clear hal hwa hwb hla hlb
  obtain ⟨E, hE⟩ : ∃ E, E = sameV u v := ⟨_, rfl⟩
  obtain ⟨C, hC⟩ : ∃ C, C = cmpV u v := ⟨_, rfl⟩
  have HE := Lib.hid hE
  have HC := Lib.hid hC
  clear hE hC
  obtain ⟨U, hU⟩ : ∃ U, U = u := ⟨_, rfl⟩
  obtain ⟨V, hV⟩ : ∃ V, V = v := ⟨_, rfl⟩
  rw [← hU] at HU HTU HWA
  rw [← hV] at HV HTV HWB
  have HEE : Hid (E = true ↔ U = V) := Lib.hid (by rw [HE.out, hU, hV]; exact sameV_iff _ _)
  rw [← hU, ← hV] at HE HC HAL
  obtain ⟨k1, b1, n1, s1, l1, f1⟩ := u
  obtain ⟨k2, b2, n2, s2, l2, f2⟩ := v
  obtain ⟨pl1, cl1, pf1, cf1, rfl, hr1⟩ := hasVal_mk.1 hu
  obtain ⟨pl2, cl2, pf2, cf2, rfl, hr2⟩ := hasVal_mk.1 hv
  clear hu hv hU hV hr1 hr2
  show Calls Tryd.prog 9 #[.agg #[.int .u8 (k1 : Int), .bool b1, .int .i64 n1, .string (bs s1), .slice pl1 l1.length cl1, .slice pf1 f1.length cf1], .agg #[.int .u8 (k2 : Int), .bool b2, .int .i64 n2, .string (bs s2), .slice pl2 l2.length cl2, .slice pf2 f2.length cf2]] w _
  go_enter Tryd.func9, Tryd.ntmps9
  go_upto_region 1 with (fail)
  generalize hW0 : World.alloc (World.alloc w _) _ = W0
  have hd1 : IsBlk W0 w.heap.size #[.int .u8 (k1 : Int), .bool b1, .int .i64 n1, .string (bs s1), .slice pl1 l1.length cl1, .slice pf1 f1.length cf1] 26 := by rw [← hW0]; exact (IsBlk.new _ _ _).alloc _
  have hd2 : IsBlk W0 (w.heap.size + 1) #[.int .u8 (k2 : Int), .bool b2, .int .i64 n2, .string (bs s2), .slice pl2 l2.length cl2, .slice pf2 f2.length cf2] 26 := by rw [← hW0]; exact IsBlk.new_at (by simp)
  have hb0 : Below w.heap.size w W0 := by rw [← hW0]; exact ((Below.refl _ _).alloc (Nat.le_refl _) _).alloc (by simp) _
  clear hW0
  have HD1 := Lib.hid hd1
  have HD2 := Lib.hid hd2
  have HB0 := Lib.hid hb0
  clear hd1 hd2 hb0
  go_wp2_with fail
  go_at_call 14
  refine (lives_any _ (U8T_ext HT.out HB0.out)).mono ?_
  rintro e' w1 ⟨rfl, hb⟩
  have hd1 := HD1.out.ext hb
  have hd2 := HD2.out.ext hb
  have HB1 := Lib.hid (below_ext HB0.out hb)
  clear hb HD1 HD2 HB0
  have c0 := hd1.cell (i := 0) rfl
  have c1 := hd1.cell (i := 1) rfl
  have c2 := hd1.cell (i := 2) rfl
  have c3 := hd1.cell (i := 3) rfl
  have c4 := hd1.cell (i := 4) rfl
  have c5 := hd1.cell (i := 5) rfl
  have HD1 := Lib.hid hd1
  have HD2 := Lib.hid hd2
  clear hd1 hd2
  go_wp2_with fail
  go_at_call 10
  refine (write_any U S _ _ (HU.out.ext HB1.out) (U8T_ext HT.out HB1.out) HTU.out).mono ?_
  rintro e' w2 ⟨he, hb⟩
  rw [HWA.out] at he
  subst he
  have hd1 := HD1.out.ext hb
  have hd2 := HD2.out.ext hb
  have HB2 := Lib.hid (below_ext HB1.out hb)
  clear hb HD1 HD2 HB1 c0 c1 c2 c3 c4 c5
  have e0 := hd2.cell (i := 0) rfl
  have e1 := hd2.cell (i := 1) rfl
  have e2 := hd2.cell (i := 2) rfl
  have e3 := hd2.cell (i := 3) rfl
  have e4 := hd2.cell (i := 4) rfl
  have e5 := hd2.cell (i := 5) rfl
  have HD1 := Lib.hid hd1
  have HD2 := Lib.hid hd2
  clear hd1 hd2
  go_wp2_with fail
  go_at_call 10
  refine (write_any V S' _ _ (HV.out.ext HB2.out) (U8T_ext HT.out HB2.out) HTV.out).mono ?_
  rintro e' w3 ⟨he, hb⟩
  rw [HWB.out] at he
  subst he
  have hd1 := HD1.out.ext hb
  have hd2 := HD2.out.ext hb
  have HB3 := Lib.hid (below_ext HB2.out hb)
  clear hb HD1 HD2 HB2 e0 e1 e2 e3 e4 e5
  by_cases hy : ya = 0 ∧ yb = 0
  case neg =>
    have hy2 : ((ya != 0) = true) ∨ ((ya != 0) = false ∧ (yb != 0) = true) := by
      by_cases h : ya = 0
      · right; exact ⟨by simpa using h, by simpa using fun h2 => hy ⟨h, h2⟩⟩
      · left; simpa using h
    clear hy
    rcases hy2 with hy2 | ⟨hy2, hy3⟩
    all_goals
      go_wp2
      go_ret
      exact ⟨rfl, HB3.out⟩
  obtain ⟨hya, hyb⟩ := hy
  have hal := HAL.out hya hyb
  have hla := HLA.out hya
  have hlb := HLB.out hyb
  subst hya hyb
  clear HAL
  have HAL := Lib.hid hal
  have hse : ((bs sa).toList == (bs sb).toList) = E := by
    rw [tl_bs, tl_bs, Bool.eq_iff_iff, beq_iff_eq, HAL.out.1]
    exact HEE.out.symm
  have hce : (C == 0) = E := by
    rw [Bool.eq_iff_iff, beq_iff_eq, HC.out, HAL.out.2.1]
    exact HEE.out.symm
  have hza := bs_size sa
  have hzb := bs_size sb
  have HD1 := Lib.hid hd1
  have HD2 := Lib.hid hd2
  have c0 := hd1.cell (i := 0) rfl
  have c1 := hd1.cell (i := 1) rfl
  have c2 := hd1.cell (i := 2) rfl
  have c3 := hd1.cell (i := 3) rfl
  have c4 := hd1.cell (i := 4) rfl
  have c5 := hd1.cell (i := 5) rfl
  have e0 := hd2.cell (i := 0) rfl
  have e1 := hd2.cell (i := 1) rfl
  have e2 := hd2.cell (i := 2) rfl
  have e3 := hd2.cell (i := 3) rfl
  have e4 := hd2.cell (i := 4) rfl
  have e5 := hd2.cell (i := 5) rfl
  have HSE := Lib.hid hse
  have HCE := Lib.hid hce
  clear hal hd1 hd2 hse hce
  go_wp2_with fail
  go_at_call 22
  refine (sam_any U V S S' _ _ _ (HU.out.ext HB3.out) (HV.out.ext HB3.out)).mono ?_
  rintro e' w4 ⟨he, hb⟩
  rw [← HE.out] at he
  subst he
  have hd1 := HD1.out.ext hb
  have hd2 := HD2.out.ext hb
  have HB4 := Lib.hid (below_ext HB3.out hb)
  clear hb c0 c1 c2 c3 c4 c5 e0 e1 e2 e3 e4 e5
  have c0 := hd1.cell (i := 0) rfl
  have c1 := hd1.cell (i := 1) rfl
  have c2 := hd1.cell (i := 2) rfl
  have c3 := hd1.cell (i := 3) rfl
  have c4 := hd1.cell (i := 4) rfl
  have c5 := hd1.cell (i := 5) rfl
  have e0 := hd2.cell (i := 0) rfl
  have e1 := hd2.cell (i := 1) rfl
  have e2 := hd2.cell (i := 2) rfl
  have e3 := hd2.cell (i := 3) rfl
  have e4 := hd2.cell (i := 4) rfl
  have e5 := hd2.cell (i := 5) rfl
  clear hd1 hd2 HD1 HD2
  have hse := HSE.out
  have hee : (E != E) = false := by simp
  go_wp2_with fail
  go_at_call 23
  refine (cmp_any U V S S' _ _ _ (HU.out.ext HB4.out) (HV.out.ext HB4.out)).mono ?_
  rintro e' w5 ⟨he, hb⟩
  rw [← HC.out] at he
  subst he
  have HB5 := Lib.hid (below_ext HB4.out hb)
  have hce := HCE.out
  clear hb c0 c1 c2 c3 c4 c5 e0 e1 e2 e3 e4 e5
  by_cases hE : E = true
  · subst hE
    go_wp2
    go_ret
    exact ⟨rfl, HB5.out⟩
  · have hnot := fun h => hE (HEE.out.2 (HAL.out.2.2 h))
    obtain rfl : E = false := by simpa using hE
    clear hE
    by_cases hlen : sb.length < sa.length
    · have hI : (sb.length : Int) < (sa.length : Int) := by omega
      have hD : decide (sb.length < sa.length) = true := decide_eq_true hlen
      have HN := Lib.hid hnot
      clear hnot hlen
      go_wp2
      go_ret
      exact ⟨rfl, HB5.out⟩
    · have hI : (sa.length : Int) ≤ (sb.length : Int) := by omega
      have hD : decide (sb.length < sa.length) = false := decide_eq_false hlen
      have hx : (bs sb).extract 0 sa.length = bs (sb.take sa.length) := bs_head sb _
      have hne : ((bs (sb.take sa.length)).toList == (bs sa).toList) = false := by rw [tl_bs, tl_bs]; simpa using hnot
      have HN := Lib.hid hnot
      clear hnot hlen
      go_wp2
      go_ret
      exact ⟨rfl, HB5.out⟩
end Go.Proofs.YtghkeilgdmnnlaaDoor
