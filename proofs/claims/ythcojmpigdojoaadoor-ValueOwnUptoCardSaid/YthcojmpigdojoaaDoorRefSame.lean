/- codicilref02.Same. Condition: both values lie in memory. -/
import Derived.Test.YthcojmpigdojoaaDoorVal
import Derived.Test.YthcojmpigdojoaaDoorStr
import Derived.WalkKit
import Derived.WalkSpells
import Derived.WalkLawsBesides
import Derived.Outline
import Derived.BigQuiet
import Derived.BigRegion
import Derived.Deep.DeepCutAuto
set_option linter.unusedVariables false
set_option linter.unusedSimpArgs false
namespace Go.Proofs.YthcojmpigdojoaaDoor
open Go Go.RowKit Go.BigFrame
set_option maxRecDepth 100000

theorem sameL_drop {l m : List DVal} {i : Nat} (h : i < l.length) (h' : i < m.length) : sameL (l.drop i) (m.drop i) = (sameV l[i] m[i] && sameL (l.drop (i + 1)) (m.drop (i + 1))) := by
  rw [List.drop_eq_getElem_cons h, List.drop_eq_getElem_cons h', sameL]
theorem sameF_drop {l m : List (List UInt8 × DVal)} {i : Nat} (h : i < l.length) (h' : i < m.length) : sameF (l.drop i) (m.drop i) = (l[i].1 == m[i].1 && sameV l[i].2 m[i].2 && sameF (l.drop (i + 1)) (m.drop (i + 1))) := by
  rw [List.drop_eq_getElem_cons h, List.drop_eq_getElem_cons h']
  generalize l[i] = p
  generalize m[i] = q
  obtain ⟨x, v⟩ := p
  obtain ⟨y, u⟩ := q
  rw [sameF]
theorem sameL_len : ∀ {l m : List DVal}, sameL l m = true → l.length = m.length
  | [], [], _ => rfl
  | [], _ :: _, h => by simp [sameL] at h
  | _ :: _, [], h => by simp [sameL] at h
  | a :: l, b :: m, h => by
    simp only [sameL, Bool.and_eq_true] at h
    simp [sameL_len h.2]
theorem sameF_len : ∀ {l m : List (List UInt8 × DVal)}, sameF l m = true → l.length = m.length
  | [], [], _ => rfl
  | [], _ :: _, h => by simp [sameF] at h
  | _ :: _, [], h => by simp [sameF] at h
  | (x, a) :: l, (y, b) :: m, h => by
    simp only [sameF, Bool.and_eq_true] at h
    simp [sameF_len h.2]
def SameOk (a : DVal) : Prop := ∀ (b : DVal) (S S' : Nat → Prop) (cs cs' : List Value) (w : World), HasVal S w a cs → HasVal S' w b cs' →
  Calls Tryd.prog 17 #[.agg cs.toArray, .agg cs'.toArray] w fun e' w' => e' = .returned (.bool (sameV a b)) ∧ Below w.heap.size w w'
set_option maxHeartbeats 4000000 in
theorem same_step (k : Nat) (b : Bool) (n : Int) (s : List UInt8) (l : List DVal) (f : List (List UInt8 × DVal)) (ihL : ∀ v ∈ l, SameOk v) (ihF : ∀ p ∈ f, SameOk p.2) : SameOk (.mk k b n s l f) := by
  intro v S S' cs cs' w hv hv'
  obtain ⟨k', b', n', s', l', f'⟩ := v
  obtain ⟨pl, cl, pf, cf, rfl, hbd, hL, hF⟩ := hasVal_mk.1 hv
  obtain ⟨pl', cl', pf', cf', rfl, hbd', hL', hF'⟩ := hasVal_mk.1 hv'
  clear hv hv'
  obtain ⟨R, hR⟩ : ∃ R, R = sameV (.mk k b n s l f) (.mk k' b' n' s' l' f') := ⟨_, rfl⟩
  rw [← hR]
  rw [sameV] at hR
  show Calls Tryd.prog 17 #[.agg #[.int .u8 (k : Int), .bool b, .int .i64 n, .string (bs s), .slice pl l.length cl, .slice pf f.length cf], .agg #[.int .u8 (k' : Int), .bool b', .int .i64 n', .string (bs s'), .slice pl' l'.length cl', .slice pf' f'.length cf']] w _
  have hll := hbd.2.2.2.2.1
  have hlf := hbd.2.2.2.2.2.1
  have hll' := hbd'.2.2.2.2.1
  have hlf' := hbd'.2.2.2.2.2.1
  clear hbd hbd'
  obtain ⟨nl, hnl⟩ : ∃ nl, nl = l.length := ⟨_, rfl⟩
  obtain ⟨nf, hnf⟩ : ∃ nf, nf = f.length := ⟨_, rfl⟩
  obtain ⟨nl', hnl'⟩ : ∃ nl', nl' = l'.length := ⟨_, rfl⟩
  obtain ⟨nf', hnf'⟩ : ∃ nf', nf' = f'.length := ⟨_, rfl⟩
  rw [← hnl, ← hnf, ← hnl', ← hnf']
  rw [← hnl] at hll
  rw [← hnf] at hlf
  rw [← hnl'] at hll'
  rw [← hnf'] at hlf'
  have HNL := Lib.hid hnl
  have HNF := Lib.hid hnf
  have HNL' := Lib.hid hnl'
  have HNF' := Lib.hid hnf'
  have HL := Lib.hid hL
  have HF := Lib.hid hF
  have HL' := Lib.hid hL'
  have HF' := Lib.hid hF'
  have HIL := Lib.hid ihL
  have HIF := Lib.hid ihF
  clear hnl hnf hnl' hnf' hL hF hL' hF' ihL ihF
  by_cases hall : k = k' ∧ b = b' ∧ n = n' ∧ s = s' ∧ nl = nl' ∧ nf = nf'
  · obtain ⟨rfl, rfl, rfl, rfl, rfl, rfl⟩ := hall
    have hR2 : R = (sameL l l' && sameF f f') := by rw [hR]; simp
    have HR := Lib.hid hR2
    clear hR hR2
    go_enter Tryd.func17, Tryd.ntmps17
    go_upto_region 3 with (fail)
    generalize hW0 : World.alloc (World.alloc w _) _ = W0
    have hd1 : IsBlk W0 w.heap.size #[.int .u8 (k : Int), .bool b, .int .i64 n, .string (bs s), .slice pl nl cl, .slice pf nf cf] 26 := by rw [← hW0]; exact (IsBlk.new _ _ _).alloc _
    have hd2 : IsBlk W0 (w.heap.size + 1) #[.int .u8 (k : Int), .bool b, .int .i64 n, .string (bs s), .slice pl' nl cl', .slice pf' nf cf'] 26 := by rw [← hW0]; exact IsBlk.new_at (by simp)
    have hb0 : Below w.heap.size w W0 := by rw [← hW0]; exact ((Below.refl _ _).alloc (Nat.le_refl _) _).alloc (by simp) _
    have hlt1 : w.heap.size < W0.heap.size := hd1.lt
    have hlt2 : w.heap.size + 1 < W0.heap.size := hd2.lt
    clear hW0
    have c14 : W0.cell? ⟨w.heap.size, 4, none⟩ = some (.slice pl nl cl) := hd1.cell rfl
    have HD1 := Lib.hid hd1
    have HD2 := Lib.hid hd2
    have HB0 := Lib.hid hb0
    clear hd1 hd2 hb0
    obtain ⟨SL, hSL⟩ : ∃ SL, SL = sameL l l' := ⟨_, rfl⟩
    have HSL := Lib.hid hSL
    clear hSL
    go_wp2
    clear c14
    go_loopw [54] (fun i wr => ∃ j : Nat, i = .int .i64 j ∧ j ≤ nl ∧ sameL (l.drop j) (l'.drop j) = SL ∧ Below W0.heap.size W0 wr) (fun i _ => nl - (intOf i).toNat)
    case atStart => exact ⟨0, rfl, by omega, HSL.out.symm, Below.refl _ _⟩
    case round =>
    obtain ⟨j, rfl, hj, hrel, hbw⟩ := hrel
    have HREL := Lib.hid hrel
    have HBW := Lib.hid hbw
    have hwr := hbw.size
    clear hrel hbw
    by_cases hlt : j < nl
    · have hj1 : j < l.length := by rw [← HNL.out]; exact hlt
      have hj2 : j < l'.length := by rw [← HNL'.out]; exact hlt
      have hbwr := Below.trans HB0.out (HBW.out.mono (by omega))
      obtain ⟨g1, o1, cs1, hp1, hc1, hv1⟩ := (HL.out.ext hbwr) j hj1
      obtain ⟨g2, o2, cs2, hp2, hc2, hv2⟩ := (HL'.out.ext hbwr) j hj2
      have hok := HIL.out _ (List.getElem_mem hj1)
      have hdr := sameL_drop hj1 hj2
      generalize l[j] = u1 at hv1 hok hdr
      generalize l'[j] = u2 at hv2 hdr
      have HOK := Lib.hid hok
      have HDR := Lib.hid hdr
      have HV1 := Lib.hid hv1
      have HV2 := Lib.hid hv2
      obtain ⟨k1, b1, n1, s1, l1, f1⟩ := u1
      obtain ⟨k2, b2, n2, s2, l2, f2⟩ := u2
      obtain ⟨pl1, cl1, pf1, cf1, rfl, _, _, _⟩ := hasVal_mk.1 hv1
      obtain ⟨pl2, cl2, pf2, cf2, rfl, _, _, _⟩ := hasVal_mk.1 hv2
      obtain ⟨d0, d1, d2, d3, d4, d5⟩ := hc1.six
      obtain ⟨e0, e1, e2, e3, e4, e5⟩ := hc2.six
      have hg1 := hc1.2.1
      have hg2 := hc2.2.1
      clear hv1 hv2 hok hdr hc1 hc2 hbwr
      subst hp1
      subst hp2
      have c14 : wr.cell? ⟨w.heap.size, 4, none⟩ = some (.slice (some ⟨g1, o1, none⟩) nl cl) := (HD1.out.below HBW.out hlt1).cell rfl
      have c24 : wr.cell? ⟨w.heap.size + 1, 4, none⟩ = some (.slice (some ⟨g2, o2, none⟩) nl cl') := (HD2.out.below HBW.out hlt2).cell rfl
      have hw1r : w.heap.size < wr.heap.size := by omega
      have hw2r : w.heap.size + 1 < wr.heap.size := by omega
      obtain ⟨q, hq⟩ : ∃ q, q = sameV (.mk k1 b1 n1 s1 l1 f1) (.mk k2 b2 n2 s2 l2 f2) := ⟨_, rfl⟩
      have HQ := Lib.hid hq
      clear hq
      go_upto_region 6 with (fail)
      refine mix_start [] (Cls wr) (by kernel_rfl) (Cls.of ((Below.refl _ _).drew)) ?_
      refine mix_flt (by kernel_rfl) [0, 1, 2, 3, 4, 5, 6, 7, 8, 9] 2 _ _ (by kernel_rfl) ?_
      simp only [opsAt, List.map_cons, List.map_nil, List.toList_toArray, List.getD_cons_succ, List.getD_cons_zero]
      unfold Cls
      repeat (go_big_quiet_step (fail))
      refine wpQuiet_nil ?_
      (try rw [← Cls_def])
      refine mix_ch (i := 10) (fuel := 1) (by kernel_rfl) _ rfl (fun w1 hw1 => ?_)
      go_wp2_with (go_at_call 17; refine (HOK.out (.mk k2 b2 n2 s2 l2 f2) S S' _ _ _ (HV1.out.ext hw1.below) (HV2.out.ext hw1.below)).mono ?_; rintro e' w' ⟨he, hb⟩; rw [← HQ.out] at he; subst he)
      refine Then.same (hw1.trans hb) ?_
      refine mix_flt (by kernel_rfl) [11] 0 _ _ (by kernel_rfl) ?_
      simp only [opsAt, List.map_cons, List.map_nil, List.toList_toArray, List.getD_cons_succ, List.getD_cons_zero]
      unfold Cls
      repeat (go_big_quiet_step (fail))
      refine wpQuiet_nil ?_
      (try rw [← Cls_def])
      refine mix_end [] (by kernel_rfl) (fun w1 hw1 => ?_)
      refine wpList_nil ?_
      refine Calm.normal ?_
      have HB1 := Lib.hid (below_ext HBW.out hw1.below)
      clear c14 c24 d0 d1 d2 d3 d4 d5 e0 e1 e2 e3 e4 e5 hw1 hb
      cases q
      · have hSf : R = false := by rw [HR.out, ← HSL.out, ← HREL.out, HDR.out, ← HQ.out]; rfl
        subst hSf
        go_wp2
        go_ret
        exact ⟨rfl, Below.trans HB0.out (HB1.out.mono (by omega))⟩
      · go_wp2
        go_roundw
        case rel => exact ⟨j + 1, by go_num, by omega, by rw [← HREL.out, HDR.out, ← HQ.out]; rfl, HB1.out⟩
        case measure => simp [intOf]; omega
    · have hSf : R = sameF f f' := by
        rw [HR.out, ← HSL.out, ← HREL.out, List.drop_eq_nil_of_le (by rw [← HNL.out]; omega), List.drop_eq_nil_of_le (by rw [← HNL'.out]; omega)]
        rfl
      have HSF := Lib.hid hSf
      clear hSf HREL
      have c15 : wr.cell? ⟨w.heap.size, 5, none⟩ = some (.slice pf nf cf) := (HD1.out.below HBW.out hlt1).cell rfl
      go_upto_region 10 with (fail)
      clear c15
      go_wp2
      go_loopw [73] (fun i wr => ∃ j : Nat, i = .int .i64 j ∧ j ≤ nf ∧ sameF (f.drop j) (f'.drop j) = R ∧ Below W0.heap.size W0 wr) (fun i _ => nf - (intOf i).toNat)
      case atStart => exact ⟨0, rfl, by omega, HSF.out.symm, HBW.out⟩
      case round =>
      clear HBW
      obtain ⟨j2, rfl, hj2', hrel, hbw⟩ := hrel
      have HREL := Lib.hid hrel
      have HBW := Lib.hid hbw
      have hwr2 := hbw.size
      clear hrel hbw
      by_cases hlt' : j2 < nf
      · have hj1 : j2 < f.length := by rw [← HNF.out]; exact hlt'
        have hj2 : j2 < f'.length := by rw [← HNF'.out]; exact hlt'
        have hbwr := Below.trans HB0.out (HBW.out.mono (by omega))
        obtain ⟨g1, o1, cs1, hp1, ⟨_, hc1⟩, hv1⟩ := (HF.out.ext hbwr) j2 hj1
        obtain ⟨g2, o2, cs2, hp2, ⟨_, hc2⟩, hv2⟩ := (HF'.out.ext hbwr) j2 hj2
        have hok := HIF.out _ (List.getElem_mem hj1)
        have hdr := sameF_drop hj1 hj2
        generalize f[j2] = p1 at hv1 hok hdr hc1
        generalize f'[j2] = p2 at hv2 hdr hc2
        obtain ⟨x1, u1⟩ := p1
        obtain ⟨x2, u2⟩ := p2
        simp only [] at hv1 hok hdr hc1 hv2 hc2
        have HOK := Lib.hid hok
        have HDR := Lib.hid hdr
        have HV1 := Lib.hid hv1
        have HV2 := Lib.hid hv2
        obtain ⟨k1, b1, n1, s1, l1, f1⟩ := u1
        obtain ⟨k2, b2, n2, s2, l2, f2⟩ := u2
        obtain ⟨pl1, cl1, pf1, cf1, rfl, _, _, _⟩ := hasVal_mk.1 hv1
        obtain ⟨pl2, cl2, pf2, cf2, rfl, _, _, _⟩ := hasVal_mk.1 hv2
        obtain ⟨d0, d1, d2, d3, d4, d5, d6⟩ := hc1.seven
        obtain ⟨e0, e1, e2, e3, e4, e5, e6⟩ := hc2.seven
        have hg1 := hc1.2.1
        have hg2 := hc2.2.1
        clear hv1 hv2 hok hdr hc1 hc2 hbwr
        subst hp1
        subst hp2
        have c15 : wr.cell? ⟨w.heap.size, 5, none⟩ = some (.slice (some ⟨g1, o1, none⟩) nf cf) := (HD1.out.below HBW.out hlt1).cell rfl
        have c25 : wr.cell? ⟨w.heap.size + 1, 5, none⟩ = some (.slice (some ⟨g2, o2, none⟩) nf cf') := (HD2.out.below HBW.out hlt2).cell rfl
        have hw1r : w.heap.size < wr.heap.size := by omega
        have hw2r : w.heap.size + 1 < wr.heap.size := by omega
        obtain ⟨q, hq⟩ : ∃ q, q = sameV (.mk k1 b1 n1 s1 l1 f1) (.mk k2 b2 n2 s2 l2 f2) := ⟨_, rfl⟩
        have HQ := Lib.hid hq
        clear hq
        by_cases hx : x1 = x2
        · subst hx
          go_upto_region 12 with (fail)
          refine mix_start [] (Cls wr) (by kernel_rfl) (Cls.of ((Below.refl _ _).drew)) ?_
          refine mix_flt (by kernel_rfl) [0, 1, 2, 3, 4, 5, 6, 7, 8, 9, 10, 11, 12, 13, 14, 15, 16, 17, 18, 19, 20, 21, 22, 23, 24, 25] 3 _ _ (by kernel_rfl) ?_
          simp only [opsAt, List.map_cons, List.map_nil, List.toList_toArray, List.getD_cons_succ, List.getD_cons_zero]
          unfold Cls
          repeat (go_big_quiet_step (fail))
          refine wpQuiet_nil ?_
          (try rw [← Cls_def])
          refine mix_ch (i := 26) (fuel := 2) (by kernel_rfl) _ rfl (fun w1 hw1 => ?_)
          go_wp2_with (go_at_call 17; refine (HOK.out (.mk k2 b2 n2 s2 l2 f2) S S' _ _ _ (HV1.out.ext hw1.below) (HV2.out.ext hw1.below)).mono ?_; rintro e' w' ⟨he, hb⟩; rw [← HQ.out] at he; subst he)
          refine Then.same (hw1.trans hb) ?_
          refine mix_flt (by kernel_rfl) [27, 28] 0 _ _ (by kernel_rfl) ?_
          simp only [opsAt, List.map_cons, List.map_nil, List.toList_toArray, List.getD_cons_succ, List.getD_cons_zero]
          unfold Cls
          repeat (go_big_quiet_step (fail))
          refine wpQuiet_nil ?_
          (try rw [← Cls_def])
          refine mix_end [] (by kernel_rfl) (fun w1 hw1 => ?_)
          refine wpList_nil ?_
          refine Calm.normal ?_
          have HB1 := Lib.hid (below_ext HBW.out hw1.below)
          clear c15 c25 d0 d1 d2 d3 d4 d5 d6 e0 e1 e2 e3 e4 e5 e6 hw1 hb
          cases q
          · have hSf : R = false := by rw [← HREL.out, HDR.out, ← HQ.out]; simp
            subst hSf
            go_wp2
            go_ret
            exact ⟨rfl, Below.trans HB0.out (HB1.out.mono (by omega))⟩
          · go_wp2
            go_roundw
            case rel => exact ⟨j2 + 1, by go_num, by omega, by rw [← HREL.out, HDR.out, ← HQ.out]; simp, HB1.out⟩
            case measure => simp [intOf]; omega
        · have hxb : ((bs x1).toList == (bs x2).toList) = false := by rw [tl_bs, tl_bs]; simpa using hx
          have hSf : R = false := by
            rw [← HREL.out, HDR.out, show (x1 == x2) = false by simpa using hx]
            rfl
          clear hx
          subst hSf
          go_upto_region 12 with (fail)
          refine mix_start [] (Cls wr) (by kernel_rfl) (Cls.of ((Below.refl _ _).drew)) ?_
          refine mix_flt (by kernel_rfl) [0, 1, 2, 3, 4, 5, 6, 7, 8, 9, 10, 11, 12, 13, 14, 15, 16, 17, 18, 19, 20, 21, 22, 23, 24, 25] 3 _ _ (by kernel_rfl) ?_
          simp only [opsAt, List.map_cons, List.map_nil, List.toList_toArray, List.getD_cons_succ, List.getD_cons_zero]
          unfold Cls
          repeat (go_big_quiet_step (fail))
          refine wpQuiet_nil ?_
          (try rw [← Cls_def])
          refine mix_ch (i := 26) (fuel := 2) (by kernel_rfl) _ rfl (fun w1 hw1 => ?_)
          go_wp2_with (go_at_call 17; fail)
          refine Then.same (hw1) ?_
          refine mix_flt (by kernel_rfl) [27, 28] 0 _ _ (by kernel_rfl) ?_
          simp only [opsAt, List.map_cons, List.map_nil, List.toList_toArray, List.getD_cons_succ, List.getD_cons_zero]
          unfold Cls
          repeat (go_big_quiet_step (fail))
          refine wpQuiet_nil ?_
          (try rw [← Cls_def])
          refine mix_end [] (by kernel_rfl) (fun w1 hw1 => ?_)
          refine wpList_nil ?_
          refine Calm.normal ?_
          have HB1 := Lib.hid (below_ext HBW.out hw1.below)
          clear c15 c25 d0 d1 d2 d3 d4 d5 d6 e0 e1 e2 e3 e4 e5 e6 hw1
          go_wp2
          go_ret
          exact ⟨rfl, Below.trans HB0.out (HB1.out.mono (by omega))⟩
      · have hSf : R = true := by
          rw [← HREL.out, List.drop_eq_nil_of_le (by rw [← HNF.out]; omega), List.drop_eq_nil_of_le (by rw [← HNF'.out]; omega)]
          rfl
        subst hSf
        go_wp2
        go_ret
        exact ⟨rfl, Below.trans HB0.out (HBW.out.mono (by omega))⟩
  · have hR2 : R = false := by
      rw [hR]
      simp only [Bool.and_eq_false_iff, beq_eq_false_iff_ne]
      by_cases h1 : k = k' <;> by_cases h2 : b = b' <;> by_cases h3 : n = n' <;> by_cases h4 : s = s' <;> simp_all
      by_cases h5 : sameL l l' = true
      · right
        have h6 := sameL_len h5
        cases h7 : sameF f f'
        · rfl
        · have h8 := sameF_len h7
          exact absurd (by rw [HNF.out, HNF'.out]; exact h8) (hall (by rw [HNL.out, HNL'.out]; exact h6))
      · left
        simpa using h5
    subst hR2
    clear hR
    by_cases h1 : k = k'
    case neg =>
      have hn1 : ((k : Int) != (k' : Int)) = true := by simp; omega
      clear hall
      go_enter Tryd.func17, Tryd.ntmps17
      go_wp2
      go_ret
      exact ⟨rfl, ((Below.refl _ _).alloc (Nat.le_refl _) _).alloc (by simp) _⟩
    subst h1
    by_cases h2 : b = b'
    case neg =>
      cases b <;> cases b' <;> first | (exact absurd rfl h2) | skip
      all_goals clear h2 hall
      all_goals
        go_enter Tryd.func17, Tryd.ntmps17
        go_wp2
        go_ret
        exact ⟨rfl, ((Below.refl _ _).alloc (Nat.le_refl _) _).alloc (by simp) _⟩
    subst h2
    by_cases h3 : n = n'
    case neg =>
      have hn3 : (n != n') = true := by simpa using h3
      clear hall
      cases b
      all_goals
        go_enter Tryd.func17, Tryd.ntmps17
        go_wp2
        go_ret
        exact ⟨rfl, ((Below.refl _ _).alloc (Nat.le_refl _) _).alloc (by simp) _⟩
    subst h3
    by_cases h4 : s = s'
    case neg =>
      have hn4 : ((bs s).toList == (bs s').toList) = false := by rw [tl_bs, tl_bs]; simpa using h4
      clear h4 hall
      cases b
      all_goals
        go_enter Tryd.func17, Tryd.ntmps17
        go_wp2
        go_ret
        exact ⟨rfl, ((Below.refl _ _).alloc (Nat.le_refl _) _).alloc (by simp) _⟩
    subst h4
    by_cases h5 : nl = nl'
    case neg =>
      have hn5 : ((nl : Int) != (nl' : Int)) = true := by simp; omega
      clear hall
      cases b
      all_goals
        go_enter Tryd.func17, Tryd.ntmps17
        go_wp2
        go_ret
        exact ⟨rfl, ((Below.refl _ _).alloc (Nat.le_refl _) _).alloc (by simp) _⟩
    subst h5
    by_cases h6 : nf = nf'
    case neg =>
      have hn6 : ((nf : Int) != (nf' : Int)) = true := by simp; omega
      clear hall
      cases b
      all_goals
        go_enter Tryd.func17, Tryd.ntmps17
        go_wp2
        go_ret
        exact ⟨rfl, ((Below.refl _ _).alloc (Nat.le_refl _) _).alloc (by simp) _⟩
    subst h6
    exact absurd ⟨rfl, rfl, rfl, rfl, rfl, rfl⟩ hall
theorem same_all : ∀ (m : Nat) (v : DVal), SizeOf.sizeOf v < m → SameOk v := by
  intro m
  induction m with
  | zero => intro v h; omega
  | succ m ih =>
    intro v h
    obtain ⟨k, b, n, s, l, f⟩ := v
    exact same_step k b n s l f (fun v hv => ih v (by have := DVal.size_l (k := k) (b := b) (n := n) (s := s) (f := f) v hv; omega)) (fun p hp => ih p.2 (by have := DVal.size_f (k := k) (b := b) (n := n) (s := s) (l := l) p hp; omega))
theorem ref_same_any (v : DVal) : SameOk v := same_all _ v (Nat.lt_succ_self _)
end Go.Proofs.YthcojmpigdojoaaDoor
