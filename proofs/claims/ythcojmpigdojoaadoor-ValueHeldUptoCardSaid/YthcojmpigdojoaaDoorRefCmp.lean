/- codicilref02.Compare. Condition: both values lie in memory. -/
import Derived.Test.YthcojmpigdojoaaDoorRefOrd
import Derived.Test.YthcojmpigdojoaaDoorCmpV
import Derived.Test.YthcojmpigdojoaaDoorRefSame
import Derived.Test.YthcojmpigdojoaaDoorMixB
set_option linter.unusedVariables false
set_option linter.unusedSimpArgs false
namespace Go.Proofs.YthcojmpigdojoaaDoor
open Go Go.RowKit Go.BigFrame
set_option maxRecDepth 100000

theorem cmpL_out {l m : List _} {j : Nat} (h : j ≤ l.length) (h' : j ≤ m.length) (hn : ¬ (j < l.length ∧ j < m.length)) {R : Int} (hR : cmpL (l.drop j) (m.drop j) = R) : (j = l.length ∧ l.length < m.length ∧ R = -1) ∨ (j = l.length ∧ l.length = m.length ∧ R = 0) ∨ (m.length < l.length ∧ j = m.length ∧ R = 1) := by
  by_cases h1 : j < l.length
  · have h2 : j = m.length := by omega
    right; right
    refine ⟨by omega, h2, ?_⟩
    rw [← hR, List.drop_eq_nil_of_le (by omega : m.length ≤ j), List.drop_eq_getElem_cons h1, cmpL]
  · rw [List.drop_eq_nil_of_le (by omega)] at hR
    by_cases h2 : j < m.length
    · left; rw [List.drop_eq_getElem_cons h2, cmpL] at hR; exact ⟨by omega, by omega, hR.symm⟩
    · right; left; rw [List.drop_eq_nil_of_le (by omega), cmpL] at hR; exact ⟨by omega, by omega, hR.symm⟩
theorem cmpF_out {l m : List _} {j : Nat} (h : j ≤ l.length) (h' : j ≤ m.length) (hn : ¬ (j < l.length ∧ j < m.length)) {R : Int} (hR : cmpF (l.drop j) (m.drop j) = R) : (j = l.length ∧ l.length < m.length ∧ R = -1) ∨ (j = l.length ∧ l.length = m.length ∧ R = 0) ∨ (m.length < l.length ∧ j = m.length ∧ R = 1) := by
  by_cases h1 : j < l.length
  · have h2 : j = m.length := by omega
    right; right
    refine ⟨by omega, h2, ?_⟩
    rw [← hR, List.drop_eq_nil_of_le (by omega : m.length ≤ j), List.drop_eq_getElem_cons h1, cmpF]
  · rw [List.drop_eq_nil_of_le (by omega)] at hR
    by_cases h2 : j < m.length
    · left; rw [List.drop_eq_getElem_cons h2, cmpF] at hR; exact ⟨by omega, by omega, hR.symm⟩
    · right; left; rw [List.drop_eq_nil_of_le (by omega), cmpF] at hR; exact ⟨by omega, by omega, hR.symm⟩
def RCmpOk (a : DVal) : Prop := ∀ (b : DVal) (S S' : Nat → Prop) (cs cs' : List Value) (w : World), HasVal S w a cs → HasVal S' w b cs' →
  Calls Tryd.prog 21 #[.agg cs.toArray, .agg cs'.toArray] w fun e' w' => e' = .returned (.int .i64 (cmpV a b)) ∧ Below w.heap.size w w'
set_option maxHeartbeats 8000000 in
theorem rcmp_step (k1 : Nat) (b1 : Bool) (n1 : Int) (s1 : List UInt8) (l1 : List DVal) (f1 : List (List UInt8 × DVal)) (ihL : ∀ v ∈ l1, RCmpOk v) (ihF : ∀ v ∈ f1, RCmpOk v.2) : RCmpOk (.mk k1 b1 n1 s1 l1 f1) := by
  intro v S S' cs cs' w hv hv'
  obtain ⟨k2, b2, n2, s2, l2, f2⟩ := v
  obtain ⟨pl1, cl1, pf1, cf1, rfl, hbd, hL, hF⟩ := hasVal_mk.1 hv
  obtain ⟨pl2, cl2, pf2, cf2, rfl, hbd', hL', hF'⟩ := hasVal_mk.1 hv'
  clear hv hv'
  obtain ⟨R, hR⟩ : ∃ R, R = cmpV (.mk k1 b1 n1 s1 l1 f1) (.mk k2 b2 n2 s2 l2 f2) := ⟨_, rfl⟩
  rw [← hR]
  rw [cmpV] at hR
  show Calls Tryd.prog 21 #[.agg #[.int .u8 (k1 : Int), .bool b1, .int .i64 n1, .string (bs s1), .slice pl1 l1.length cl1, .slice pf1 f1.length cf1], .agg #[.int .u8 (k2 : Int), .bool b2, .int .i64 n2, .string (bs s2), .slice pl2 l2.length cl2, .slice pf2 f2.length cf2]] w _
  have hll := hbd.2.2.2.2.1
  have hlf := hbd.2.2.2.2.2.1
  have hll' := hbd'.2.2.2.2.1
  have hlf' := hbd'.2.2.2.2.2.1
  clear hbd hbd'
  obtain ⟨nl, hnl⟩ : ∃ nl, nl = l1.length := ⟨_, rfl⟩
  obtain ⟨nf, hnf⟩ : ∃ nf, nf = f1.length := ⟨_, rfl⟩
  obtain ⟨nl', hnl'⟩ : ∃ nl', nl' = l2.length := ⟨_, rfl⟩
  obtain ⟨nf', hnf'⟩ : ∃ nf', nf' = f2.length := ⟨_, rfl⟩
  rw [← hnl, ← hnf, ← hnl', ← hnf']
  rw [← hnl] at hll
  rw [← hnf] at hlf
  rw [← hnl'] at hll'
  rw [← hnf'] at hlf'
  have HNL := Lib.hid hnl
  have HNF := Lib.hid hnf
  have HNL' := Lib.hid hnl'
  have HNF' := Lib.hid hnf'
  have HL := Lib.hid hL
  have HF := Lib.hid hF
  have HL' := Lib.hid hL'
  have HF' := Lib.hid hF'
  have HIL := Lib.hid ihL
  have HIF := Lib.hid ihF
  clear hnl hnf hnl' hnf' hL hF hL' hF' ihL ihF
  go_enter Tryd.func21, Tryd.ntmps21
  go_upto_region 1 with (fail)
  generalize hW0 : World.alloc (World.alloc w _) _ = W0
  have hd1 : IsBlk W0 w.heap.size #[.int .u8 (k1 : Int), .bool b1, .int .i64 n1, .string (bs s1), .slice pl1 nl cl1, .slice pf1 nf cf1] 26 := by rw [← hW0]; exact (IsBlk.new _ _ _).alloc _
  have hd2 : IsBlk W0 (w.heap.size + 1) #[.int .u8 (k2 : Int), .bool b2, .int .i64 n2, .string (bs s2), .slice pl2 nl' cl2, .slice pf2 nf' cf2] 26 := by rw [← hW0]; exact IsBlk.new_at (by simp)
  have hb0 : Below w.heap.size w W0 := by rw [← hW0]; exact ((Below.refl _ _).alloc (Nat.le_refl _) _).alloc (by simp) _
  have hlt1 : w.heap.size < W0.heap.size := hd1.lt
  have hlt2 : w.heap.size + 1 < W0.heap.size := hd2.lt
  clear hW0
  have HB0 := Lib.hid hb0
  have HD1 := Lib.hid hd1
  have HD2 := Lib.hid hd2
  have d0 := hd1.cell (i := 0) rfl
  have d1 := hd1.cell (i := 1) rfl
  have d2 := hd1.cell (i := 2) rfl
  have d3 := hd1.cell (i := 3) rfl
  have d4 := hd1.cell (i := 4) rfl
  have d5 := hd1.cell (i := 5) rfl
  have e0 := hd2.cell (i := 0) rfl
  have e1 := hd2.cell (i := 1) rfl
  have e2 := hd2.cell (i := 2) rfl
  have e3 := hd2.cell (i := 3) rfl
  have e4 := hd2.cell (i := 4) rfl
  have e5 := hd2.cell (i := 5) rfl
  clear hd1 hd2 hb0
  by_cases hk : k1 = k2
  case neg =>
    rw [if_pos hk, cmpI] at hR
    have hkb : ((k1 : Int) != (k2 : Int)) = true := by simp; omega
    rcases Nat.lt_or_gt_of_ne hk with hlt | hlt
    · rw [if_pos (by omega)] at hR
      have a1 : decide ((k1 : Int) < (k2 : Int)) = true := by simp; omega
      have a2 : decide ((k2 : Int) < (k1 : Int)) = false := by simp; omega
      have a3 : decide (k1 < k2) = true := by simp; omega
      have a4 : decide (k2 < k1) = false := by simp; omega
      have a5 : ¬ k2 < k1 := by omega
      subst hR
      clear hk
      go_wp2_with fail
      go_at_call 44
      refine (rorder_lt _).mono ?_
      rintro e' w1 ⟨rfl, rfl⟩
      go_wp2
      go_ret
      exact ⟨rfl, HB0.out⟩
    · rw [if_neg (by omega), if_pos (by omega)] at hR
      have a1 : decide ((k1 : Int) < (k2 : Int)) = false := by simp; omega
      have a2 : decide ((k2 : Int) < (k1 : Int)) = true := by simp; omega
      have a3 : decide (k1 < k2) = false := by simp; omega
      have a4 : decide (k2 < k1) = true := by simp; omega
      have a5 : ¬ k1 < k2 := by omega
      have a6 : k2 < k1 := hlt
      subst hR
      clear hk
      go_wp2_with fail
      go_at_call 44
      refine (rorder_gt _).mono ?_
      rintro e' w1 ⟨rfl, rfl⟩
      go_wp2
      go_ret
      exact ⟨rfl, HB0.out⟩
  subst hk
  rw [if_neg (by simp)] at hR
  have hkb : ((k1 : Int) != (k1 : Int)) = false := by simp
  by_cases h1 : k1 = 1
  · rw [if_pos h1] at hR
    have HR := Lib.hid hR
    clear hR
    subst h1
    cases b1 <;> cases b2
    all_goals
      go_wp2_with fail
      go_at_call 44
      first | refine (rorder_lt _).mono ?_ | refine (rorder_gt _).mono ?_ | refine (rorder_eq _).mono ?_
      rintro e' w1 ⟨rfl, rfl⟩
      go_wp2
      go_ret
      exact ⟨by rw [HR.out]; rfl, HB0.out⟩
  rw [if_neg h1] at hR
  have q1 : ((k1 : Int) == 1) = false := by simp; omega
  by_cases h2 : k1 = 2
  · rw [if_pos h2] at hR
    have hc : (n1 < n2 ∧ R = -1) ∨ (n2 < n1 ∧ R = 1) ∨ (n1 = n2 ∧ R = 0) := by
      rw [hR, cmpI]
      rcases Int.lt_trichotomy n1 n2 with h | h | h
      · left; exact ⟨h, if_pos h⟩
      · right; right; exact ⟨h, by rw [if_neg (by omega), if_neg (by omega)]⟩
      · right; left; exact ⟨h, by rw [if_neg (by omega), if_pos h]⟩
    clear hR h1 q1
    subst h2
    rcases hc with ⟨hc, hR⟩ | ⟨hc, hR⟩ | ⟨hc, hR⟩
    · have a1 : decide (n1 < n2) = true := by simpa using hc
      have a2 : decide (n2 < n1) = false := by simp; omega
      have HR := Lib.hid hR
      clear hR
      go_wp2_with fail
      go_at_call 44
      refine (rorder_lt _).mono ?_
      rintro e' w1 ⟨rfl, rfl⟩
      go_wp2
      go_ret
      exact ⟨by rw [HR.out]; rfl, HB0.out⟩
    · have a1 : decide (n1 < n2) = false := by simp; omega
      have a2 : decide (n2 < n1) = true := by simpa using hc
      have HR := Lib.hid hR
      clear hR
      go_wp2_with fail
      go_at_call 44
      refine (rorder_gt _).mono ?_
      rintro e' w1 ⟨rfl, rfl⟩
      go_wp2
      go_ret
      exact ⟨by rw [HR.out]; rfl, HB0.out⟩
    · subst hc
      have HR := Lib.hid hR
      clear hR
      go_wp2_with fail
      go_at_call 44
      refine (rorder_eq _).mono ?_
      rintro e' w1 ⟨rfl, rfl⟩
      go_wp2
      go_ret
      exact ⟨by rw [HR.out]; rfl, HB0.out⟩
  rw [if_neg h2] at hR
  have q2 : ((k1 : Int) == 2) = false := by simp; omega
  by_cases h34 : k1 = 3 ∨ k1 = 4
  · rw [if_pos h34] at hR
    have hc : (Op.bytesLess s1 s2 = true ∧ R = -1) ∨ ((Op.bytesLess s1 s2 = false ∧ ¬ s1 = s2) ∧ R = 1) ∨ (s1 = s2 ∧ R = 0) := by
      rw [hR, cmpS]
      by_cases hp : Op.bytesLess s1 s2 = true
      · left; exact ⟨hp, if_pos hp⟩
      · have hp2 : Op.bytesLess s1 s2 = false := by simpa using hp
        by_cases he : s1 = s2
        · right; right; exact ⟨he, by rw [if_neg hp, he, if_neg (by rw [bytesLess_irrefl]; decide)]⟩
        · have hq : Op.bytesLess s2 s1 = true := by
            cases h : Op.bytesLess s2 s1
            · exact absurd (bytesLess_conn s1 s2 hp2 h) he
            · rfl
          right; left; exact ⟨⟨hp2, he⟩, by rw [if_neg hp, if_pos hq]⟩
    clear hR h1 h2 q1 q2
    rcases h34 with rfl | rfl
    all_goals
      rcases hc with ⟨hc, hR⟩ | ⟨⟨hc, he⟩, hR⟩ | ⟨hc, hR⟩
      · have g1 : Op.bytesLess (bs s1).toList (bs s2).toList = true := by rw [tl_bs, tl_bs, hc]
        clear hc
        have HR := Lib.hid hR
        clear hR
        go_wp2_with fail
        go_at_call 44
        refine (rorder_lt _).mono ?_
        rintro e' w1 ⟨rfl, rfl⟩
        go_wp2
        go_ret
        exact ⟨by rw [HR.out]; rfl, HB0.out⟩
      · have g1 : Op.bytesLess (bs s1).toList (bs s2).toList = false := by rw [tl_bs, tl_bs, hc]
        have g2 : ((bs s1).toList == (bs s2).toList) = false := by rw [tl_bs, tl_bs]; simpa using he
        clear hc he
        have HR := Lib.hid hR
        clear hR
        go_wp2_with fail
        go_at_call 44
        refine (rorder_gt _).mono ?_
        rintro e' w1 ⟨rfl, rfl⟩
        go_wp2
        go_ret
        exact ⟨by rw [HR.out]; rfl, HB0.out⟩
      · subst hc
        have g1 : Op.bytesLess (bs s1).toList (bs s1).toList = false := by rw [tl_bs, bytesLess_irrefl]
        have g2 : ((bs s1).toList == (bs s1).toList) = true := beq_self_eq_true _
        have HR := Lib.hid hR
        clear hR
        go_wp2_with fail
        go_at_call 44
        refine (rorder_eq _).mono ?_
        rintro e' w1 ⟨rfl, rfl⟩
        go_wp2
        go_ret
        exact ⟨by rw [HR.out]; rfl, HB0.out⟩
  rw [if_neg h34] at hR
  have q3 : ((k1 : Int) == 3) = false := by simp; omega
  have q4 : ((k1 : Int) == 4) = false := by simp; omega
  by_cases h5 : k1 = 5
  · rw [if_pos h5] at hR
    have HR := Lib.hid hR
    clear hR h1 h2 h34 q1 q2 q3 q4
    subst h5
    go_wp2
    clear d0 d1 d2 d3 d4 d5 e0 e1 e2 e3 e4 e5
    go_loopw [5] (fun i wr => ∃ j : Nat, i = .int .i64 j ∧ j ≤ nl ∧ j ≤ nl' ∧ cmpL (l1.drop j) (l2.drop j) = R ∧ Below W0.heap.size W0 wr) (fun i _ => nl - (intOf i).toNat)
    case atStart => exact ⟨0, rfl, by omega, by omega, HR.out.symm, Below.refl _ _⟩
    case round =>
    obtain ⟨j, rfl, hj, hj', hrel, hbw⟩ := hrel
    have HREL := Lib.hid hrel
    have HBW := Lib.hid hbw
    have hwr := hbw.size
    clear hrel hbw
    have hw1r : w.heap.size < wr.heap.size := by omega
    have hw2r : w.heap.size + 1 < wr.heap.size := by omega
    by_cases hb : j < nl ∧ j < nl'
    · obtain ⟨hlt, hlt'⟩ := hb
      have hj1 : j < l1.length := by rw [← HNL.out]; exact hlt
      have hj2 : j < l2.length := by rw [← HNL'.out]; exact hlt'
      have hbwr := Below.trans HB0.out (HBW.out.mono (by omega))
      obtain ⟨g1, o1, cs1, hp1, hc1, hv1⟩ := (HL.out.ext hbwr) j hj1
      obtain ⟨g2, o2, cs2, hp2, hc2, hv2⟩ := (HL'.out.ext hbwr) j hj2
      have hok := HIL.out _ (List.getElem_mem hj1)
      have hdr := cmpL_drop hj1 hj2
      generalize l1[j] = u1 at hv1 hok hdr
      generalize l2[j] = u2 at hv2 hdr
      have HOK := Lib.hid hok
      have HDR := Lib.hid hdr
      have HV1 := Lib.hid hv1
      have HV2 := Lib.hid hv2
      obtain ⟨ka, ba, na, sa, la, fa⟩ := u1
      obtain ⟨kb, bb, nb, sb, lb, fb⟩ := u2
      obtain ⟨pla, cla, pfa, cfa, rfl, _, _, _⟩ := hasVal_mk.1 hv1
      obtain ⟨plb, clb, pfb, cfb, rfl, _, _, _⟩ := hasVal_mk.1 hv2
      obtain ⟨d0, d1, d2, d3, d4, d5⟩ := hc1.six
      obtain ⟨e0, e1, e2, e3, e4, e5⟩ := hc2.six
      have hg1 := hc1.2.1
      have hg2 := hc2.2.1
      clear hv1 hv2 hok hdr hc1 hc2 hbwr
      subst hp1
      subst hp2
      have c14 : wr.cell? ⟨w.heap.size, 4, none⟩ = some (.slice (some ⟨g1, o1, none⟩) nl cl1) := (HD1.out.below HBW.out hlt1).cell rfl
      have c24 : wr.cell? ⟨w.heap.size + 1, 4, none⟩ = some (.slice (some ⟨g2, o2, none⟩) nl' cl2) := (HD2.out.below HBW.out hlt2).cell rfl
      obtain ⟨q, hq⟩ : ∃ q, q = cmpV (.mk ka ba na sa la fa) (.mk kb bb nb sb lb fb) := ⟨_, rfl⟩
      have HQ := Lib.hid hq
      clear hq
      go_upto_region 15 with (fail)
      refine mix_start [] (Cls wr) (by kernel_rfl) (Cls.of ((Below.refl _ _).drew)) ?_
      refine mix_flt (by kernel_rfl) [0, 1, 2, 3, 4, 5, 6, 7, 8, 9] 2 _ _ (by kernel_rfl) ?_
      simp only [opsAt, List.map_cons, List.map_nil, List.toList_toArray, List.getD_cons_succ, List.getD_cons_zero]
      unfold Cls
      repeat (go_big_quiet_step (fail))
      refine wpQuiet_nil ?_
      (try rw [← Cls_def])
      refine mix_ch (i := 10) (fuel := 1) (by kernel_rfl) _ rfl (fun w1 hw1 => ?_)
      go_wp2_with (go_at_call 21; refine (HOK.out (.mk kb bb nb sb lb fb) S S' _ _ _ (HV1.out.ext hw1.below) (HV2.out.ext hw1.below)).mono ?_; rintro e' w' ⟨he, hb⟩; rw [← HQ.out] at he; subst he)
      refine Then.same (hw1.trans hb) ?_
      refine mix_flt (by kernel_rfl) [11] 0 _ _ (by kernel_rfl) ?_
      simp only [opsAt, List.map_cons, List.map_nil, List.toList_toArray, List.getD_cons_succ, List.getD_cons_zero]
      unfold Cls
      repeat (go_big_quiet_step (fail))
      refine wpQuiet_nil ?_
      (try rw [← Cls_def])
      refine mix_end [] (by kernel_rfl) (fun w1 hw1 => ?_)
      refine wpList_nil ?_
      refine Calm.normal ?_
      have HB1 := Lib.hid (below_ext HBW.out hw1.below)
      clear c14 c24 d0 d1 d2 d3 d4 d5 e0 e1 e2 e3 e4 e5 hw1 hb
      by_cases hq0 : q = 0
      · subst hq0
        go_wp2
        go_roundw
        case rel =>
          repeat apply Exists.intro
          refine ⟨⟨j + 1, by go_num, by omega, by omega, by rw [← HREL.out, HDR.out, ← HQ.out]; rfl, HB1.out⟩, ?_⟩
          rfl
        case measure => simp [intOf]; omega
      · have hRq : R = q := by rw [← HREL.out, HDR.out, ← HQ.out, orC, if_neg hq0]
        have HRQ := Lib.hid hRq
        have q1 : (q != 0) = true := by simpa using hq0
        clear hRq
        go_wp2
        go_ret
        exact ⟨by rw [HRQ.out]; rfl, Below.trans HB0.out (HB1.out.mono (by omega))⟩
    · have hx := cmpL_out (l := l1) (m := l2) (j := j) (R := R) (HNL.out ▸ hj) (HNL'.out ▸ hj') (by intro h; exact hb ⟨by have := HNL.out; omega, by have := HNL'.out; omega⟩) HREL.out
      rw [← HNL.out, ← HNL'.out] at hx
      have x4 : wr.cell? ⟨w.heap.size, 4, none⟩ = some (.slice pl1 nl cl1) := (HD1.out.below HBW.out hlt1).cell rfl
      have y4 : wr.cell? ⟨w.heap.size + 1, 4, none⟩ = some (.slice pl2 nl' cl2) := (HD2.out.below HBW.out hlt2).cell rfl
      clear hb
      rcases hx with ⟨rfl, hlt, hR1⟩ | ⟨rfl, hlt, hR1⟩ | ⟨hlt, rfl, hR1⟩
      · have HR1 := Lib.hid hR1
        have a1 : decide ((j : Int) < (nl' : Int)) = true := by simp; omega
        have a2 : decide ((nl' : Int) < (j : Int)) = false := by simp; omega
        have a3 : decide (j < nl') = true := by simp; omega
        have a4 : decide (nl' < j) = false := by simp; omega
        have a5 : ¬ nl' < j := by omega
        clear hR1
        go_wp2_with fail
        go_at_call 44
        refine (rorder_lt _).mono ?_
        rintro e' w1 ⟨rfl, rfl⟩
        go_wp2
        go_ret
        exact ⟨by rw [HR1.out]; rfl, Below.trans HB0.out (HBW.out.mono (by omega))⟩
      · have HR1 := Lib.hid hR1
        subst hlt
        clear hR1
        go_wp2_with fail
        go_at_call 44
        refine (rorder_eq _).mono ?_
        rintro e' w1 ⟨rfl, rfl⟩
        go_wp2
        go_ret
        exact ⟨by rw [HR1.out]; rfl, Below.trans HB0.out (HBW.out.mono (by omega))⟩
      · have HR1 := Lib.hid hR1
        have a1 : decide ((j : Int) < (nl : Int)) = true := by simp; omega
        have a2 : decide ((nl : Int) < (j : Int)) = false := by simp; omega
        have a3 : decide (j < nl) = true := by simp; omega
        have a4 : decide (nl < j) = false := by simp; omega
        have a5 : ¬ nl < j := by omega
        clear hR1
        go_wp2_with fail
        go_at_call 44
        refine (rorder_gt _).mono ?_
        rintro e' w1 ⟨rfl, rfl⟩
        go_wp2
        go_ret
        exact ⟨by rw [HR1.out]; rfl, Below.trans HB0.out (HBW.out.mono (by omega))⟩
  rw [if_neg h5] at hR
  have q5 : ((k1 : Int) == 5) = false := by simp; omega
  by_cases h6 : k1 = 6
  · rw [if_pos h6] at hR
    have HR := Lib.hid hR
    clear hR h1 h2 h34 h5 q1 q2 q3 q4 q5
    subst h6
    go_wp2
    clear d0 d1 d2 d3 d4 d5 e0 e1 e2 e3 e4 e5
    go_loopw [7] (fun i wr => ∃ j : Nat, i = .int .i64 j ∧ j ≤ nf ∧ j ≤ nf' ∧ cmpF (f1.drop j) (f2.drop j) = R ∧ Below W0.heap.size W0 wr) (fun i _ => nf - (intOf i).toNat)
    case atStart => exact ⟨0, rfl, by omega, by omega, HR.out.symm, Below.refl _ _⟩
    case round =>
    obtain ⟨j, rfl, hj, hj', hrel, hbw⟩ := hrel
    have HREL := Lib.hid hrel
    have HBW := Lib.hid hbw
    have hwr := hbw.size
    clear hrel hbw
    have hw1r : w.heap.size < wr.heap.size := by omega
    have hw2r : w.heap.size + 1 < wr.heap.size := by omega
    by_cases hb : j < nf ∧ j < nf'
    · obtain ⟨hlt, hlt'⟩ := hb
      have hj1 : j < f1.length := by rw [← HNF.out]; exact hlt
      have hj2 : j < f2.length := by rw [← HNF'.out]; exact hlt'
      have hbwr := Below.trans HB0.out (HBW.out.mono (by omega))
      obtain ⟨g1, o1, cs1, hp1, ⟨_, hc1⟩, hv1⟩ := (HF.out.ext hbwr) j hj1
      obtain ⟨g2, o2, cs2, hp2, ⟨_, hc2⟩, hv2⟩ := (HF'.out.ext hbwr) j hj2
      have hok := HIF.out _ (List.getElem_mem hj1)
      have hdr := cmpF_drop hj1 hj2
      generalize f1[j] = p1 at hv1 hok hdr hc1
      generalize f2[j] = p2 at hv2 hdr hc2
      obtain ⟨x1, u1⟩ := p1
      obtain ⟨x2, u2⟩ := p2
      simp only [cmpP] at hv1 hok hdr hc1 hv2 hc2
      have HOK := Lib.hid hok
      have HDR := Lib.hid hdr
      have HV1 := Lib.hid hv1
      have HV2 := Lib.hid hv2
      obtain ⟨ka, ba, na, sa, la, fa⟩ := u1
      obtain ⟨kb, bb, nb, sb, lb, fb⟩ := u2
      obtain ⟨pla, cla, pfa, cfa, rfl, _, _, _⟩ := hasVal_mk.1 hv1
      obtain ⟨plb, clb, pfb, cfb, rfl, _, _, _⟩ := hasVal_mk.1 hv2
      obtain ⟨d0, d1, d2, d3, d4, d5, d6⟩ := hc1.seven
      obtain ⟨e0, e1, e2, e3, e4, e5, e6⟩ := hc2.seven
      have hg1 := hc1.2.1
      have hg2 := hc2.2.1
      clear hv1 hv2 hok hdr hc1 hc2 hbwr
      subst hp1
      subst hp2
      have c15 : wr.cell? ⟨w.heap.size, 5, none⟩ = some (.slice (some ⟨g1, o1, none⟩) nf cf1) := (HD1.out.below HBW.out hlt1).cell rfl
      have c25 : wr.cell? ⟨w.heap.size + 1, 5, none⟩ = some (.slice (some ⟨g2, o2, none⟩) nf' cf2) := (HD2.out.below HBW.out hlt2).cell rfl
      obtain ⟨q, hq⟩ : ∃ q, q = cmpV (.mk ka ba na sa la fa) (.mk kb bb nb sb lb fb) := ⟨_, rfl⟩
      obtain ⟨qs, hqs⟩ : ∃ qs, qs = cmpS x1 x2 := ⟨_, rfl⟩
      have HQ := Lib.hid hq
      have HQS := Lib.hid hqs
      have hc : (Op.bytesLess x1 x2 = true ∧ qs = -1) ∨ ((Op.bytesLess x1 x2 = false ∧ ¬ x1 = x2) ∧ qs = 1) ∨ (x1 = x2 ∧ qs = 0) := by
        rw [hqs, cmpS]
        by_cases hp : Op.bytesLess x1 x2 = true
        · left; exact ⟨hp, if_pos hp⟩
        · have hp2 : Op.bytesLess x1 x2 = false := by simpa using hp
          by_cases he : x1 = x2
          · right; right; exact ⟨he, by rw [if_neg hp, he, if_neg (by rw [bytesLess_irrefl]; decide)]⟩
          · have hq : Op.bytesLess x2 x1 = true := by
              cases h : Op.bytesLess x2 x1
              · exact absurd (bytesLess_conn x1 x2 hp2 h) he
              · rfl
            right; left; exact ⟨⟨hp2, he⟩, by rw [if_neg hp, if_pos hq]⟩
      have HC := Lib.hid hc
      clear hq hqs hc
      go_upto_region 23 with (fail)
      go_cut [8, 9] (fun a b wx => ∃ b8 b9 : Nat, a = .pointer (some ⟨b8, 0, none⟩) ∧ b = .pointer (some ⟨b9, 0, none⟩) ∧ IsBlk wx b8 #[.string (bs x1), .int .u8 (ka : Int), .bool ba, .int .i64 na, .string (bs sa), .slice pla la.length cla, .slice pfa fa.length cfa] 38 ∧ IsBlk wx b9 #[.string (bs x2), .int .u8 (kb : Int), .bool bb, .int .i64 nb, .string (bs sb), .slice plb lb.length clb, .slice pfb fb.length cfb] 38 ∧ Below wr.heap.size wr wx)
      case first =>
        refine mixB_start [13] (Cls wr) (by kernel_rfl) (Cls.of ((Below.refl _ _).drew)) (fun hCw => ?_)
        refine mixB_flt (by kernel_rfl) [0, 1, 2, 3, 4, 5, 6, 7, 8, 9] 4 _ _ hCw (by kernel_rfl) ?_
        simp only [opsAt, List.map_cons, List.map_nil, List.toList_toArray, List.getD_cons_succ, List.getD_cons_zero]
        unfold Cls
        repeat (go_big_quiet_step (fail))
        refine wpQuiet_nil ?_
        (try rw [← Cls_def])
        refine mixB_br (i := 10) (j := 11) (fuel := 3) (by kernel_rfl) (by kernel_rfl) ?_ ?_
        · simp only [opsAt, List.map_cons, List.map_nil, List.toList_toArray, List.getD_cons_succ, List.getD_cons_zero]
          go_wp2_with (fail)
          refine ThenB.mk (hCw.trans ((Below.refl _ _).alloc (Nat.le_refl _) _)) (fun hCw => ?_)
          refine mixB_ch (i := 11) (fuel := 2) (by kernel_rfl) (by kernel_rfl) ?_
          simp only [opsAt, List.map_cons, List.map_nil, List.toList_toArray, List.getD_cons_succ, List.getD_cons_zero]
          go_wp2_with (fail)
          refine ThenB.mk (hCw.trans ((Below.refl _ _).alloc (Nat.le_refl _) _)) (fun hCw => ?_)
          refine mixB_ch (i := 12) (fuel := 1) (by kernel_rfl) (by kernel_rfl) ?_
          simp only [opsAt, List.map_cons, List.map_nil, List.toList_toArray, List.getD_cons_succ, List.getD_cons_zero]
          go_wp2_with (fail)
          refine ThenB.mk (Cls.of (((Below.refl _ _).drew.alloc (Nat.le_refl _) _).alloc (by simp) _)) (fun hCw => ?_)
          refine mixB_end [13] (by kernel_rfl) ?_
          simp only [opsAt, List.map_cons, List.map_nil, List.toList_toArray, List.getD_cons_succ, List.getD_cons_zero]
          go_wp2
          refine Calm.normal ?_
          go_wp2
          go_meet
          first | refine ⟨wr.heap.size, wr.heap.size + 1, rfl, rfl, (IsBlk.new _ _ _).alloc _, IsBlk.new_at (by simp), ((Below.refl _ _).drew.alloc (Nat.le_refl _) _).alloc (by simp)  _⟩ | refine ⟨wr.heap.size + 1, wr.heap.size, rfl, rfl, IsBlk.new_at (by simp), (IsBlk.new _ _ _).alloc _, ((Below.refl _ _).drew.alloc (Nat.le_refl _) _).alloc (by simp) _⟩
        · simp only [opsAt, List.map_cons, List.map_nil, List.toList_toArray, List.getD_cons_succ, List.getD_cons_zero]
          go_wp2_with (fail)
          refine ThenB.mk (hCw.trans ((Below.refl _ _).alloc (Nat.le_refl _) _)) (fun hCw => ?_)
          refine mixB_ch (i := 10) (fuel := 2) (by kernel_rfl) (by kernel_rfl) ?_
          simp only [opsAt, List.map_cons, List.map_nil, List.toList_toArray, List.getD_cons_succ, List.getD_cons_zero]
          go_wp2_with (fail)
          refine ThenB.mk (hCw.trans ((Below.refl _ _).alloc (Nat.le_refl _) _)) (fun hCw => ?_)
          refine mixB_ch (i := 12) (fuel := 1) (by kernel_rfl) (by kernel_rfl) ?_
          simp only [opsAt, List.map_cons, List.map_nil, List.toList_toArray, List.getD_cons_succ, List.getD_cons_zero]
          go_wp2_with (fail)
          refine ThenB.mk (Cls.of (((Below.refl _ _).drew.alloc (Nat.le_refl _) _).alloc (by simp) _)) (fun hCw => ?_)
          refine mixB_end [13] (by kernel_rfl) ?_
          simp only [opsAt, List.map_cons, List.map_nil, List.toList_toArray, List.getD_cons_succ, List.getD_cons_zero]
          go_wp2
          refine Calm.normal ?_
          go_wp2
          go_meet
          first | refine ⟨wr.heap.size, wr.heap.size + 1, rfl, rfl, (IsBlk.new _ _ _).alloc _, IsBlk.new_at (by simp), ((Below.refl _ _).drew.alloc (Nat.le_refl _) _).alloc (by simp)  _⟩ | refine ⟨wr.heap.size + 1, wr.heap.size, rfl, rfl, IsBlk.new_at (by simp), (IsBlk.new _ _ _).alloc _, ((Below.refl _ _).drew.alloc (Nat.le_refl _) _).alloc (by simp) _⟩
      case rest =>
        obtain ⟨b8, b9, rfl, rfl, h8, h9, hb2⟩ := hcut
        have HB2 := Lib.hid (below_ext HBW.out hb2)
        have HV12 := Lib.hid (HV1.out.ext hb2)
        have HV22 := Lib.hid (HV2.out.ext hb2)
        have hz2 := hb2.size
        have r0 := h8.cell (i := 0) rfl
        have r1 := h8.cell (i := 1) rfl
        have r2 := h8.cell (i := 2) rfl
        have r3 := h8.cell (i := 3) rfl
        have r4 := h8.cell (i := 4) rfl
        have r5 := h8.cell (i := 5) rfl
        have r6 := h8.cell (i := 6) rfl
        have s0 := h9.cell (i := 0) rfl
        have s1 := h9.cell (i := 1) rfl
        have s2 := h9.cell (i := 2) rfl
        have s3 := h9.cell (i := 3) rfl
        have s4 := h9.cell (i := 4) rfl
        have s5 := h9.cell (i := 5) rfl
        have s6 := h9.cell (i := 6) rfl
        have hl8 := h8.lt
        have hl9 := h9.lt
        clear h8 h9 hb2 c15 c25 d0 d1 d2 d3 d4 d5 d6 e0 e1 e2 e3 e4 e5 e6
        rcases HC.out with ⟨hc, hR⟩ | ⟨⟨hc, he⟩, hR⟩ | ⟨hc, hR⟩
        · have k1 : Op.bytesLess (bs x1).toList (bs x2).toList = true := by rw [tl_bs, tl_bs, hc]
          have HRQ : Hid (R = -1) := Lib.hid (by rw [← HREL.out, HDR.out, ← HQS.out, hR]; rfl)
          clear hc hR
          go_wp2_with fail
          go_at_call 44
          refine (rorder_lt _).mono ?_
          rintro e' w1 ⟨rfl, rfl⟩
          go_wp2
          go_ret
          exact ⟨by rw [HRQ.out]; rfl, Below.trans HB0.out (HB2.out.mono (by omega))⟩
        · have k1 : Op.bytesLess (bs x1).toList (bs x2).toList = false := by rw [tl_bs, tl_bs, hc]
          have k2 : ((bs x1).toList == (bs x2).toList) = false := by rw [tl_bs, tl_bs]; simpa using he
          have HRQ : Hid (R = 1) := Lib.hid (by rw [← HREL.out, HDR.out, ← HQS.out, hR]; rfl)
          clear hc he hR
          go_wp2_with fail
          go_at_call 44
          refine (rorder_gt _).mono ?_
          rintro e' w1 ⟨rfl, rfl⟩
          go_wp2
          go_ret
          exact ⟨by rw [HRQ.out]; rfl, Below.trans HB0.out (HB2.out.mono (by omega))⟩
        · subst hc
          have k1 : Op.bytesLess (bs x1).toList (bs x1).toList = false := by rw [tl_bs, bytesLess_irrefl]
          have k2 : ((bs x1).toList == (bs x1).toList) = true := beq_self_eq_true _
          have HRQ : Hid (R = orC q (cmpF (f1.drop (j + 1)) (f2.drop (j + 1)))) := Lib.hid (by rw [← HREL.out, HDR.out, ← HQS.out, ← HQ.out, hR]; rfl)
          clear hR
          go_wp2_with fail
          go_at_call 44
          refine (rorder_eq _).mono ?_
          rintro e' w1 ⟨rfl, rfl⟩
          go_wp2_with fail
          go_at_call 21
          refine (HOK.out (.mk kb bb nb sb lb fb) S S' _ _ _ HV12.out HV22.out).mono ?_
          rintro e' w1 ⟨he, hb⟩
          rw [← HQ.out] at he
          subst he
          have HB1 := Lib.hid (below_ext HB2.out hb)
          have hb1z := hb.size
          clear r0 r1 r2 r3 r4 r5 r6 s0 s1 s2 s3 s4 s5 s6 hb
          by_cases hq0 : q = 0
          · subst hq0
            go_wp2
            go_roundw
            case rel =>
              repeat apply Exists.intro
              refine ⟨⟨j + 1, by go_num, by omega, by omega, by rw [HRQ.out]; rfl, HB1.out⟩, ?_⟩
              rfl
            case measure => simp [intOf]; omega
          · have hRq : R = q := by rw [HRQ.out, orC, if_neg hq0]
            have HRQ2 := Lib.hid hRq
            have q1 : (q != 0) = true := by simpa using hq0
            clear hRq
            go_wp2
            go_ret
            exact ⟨by rw [HRQ2.out]; rfl, Below.trans HB0.out (HB1.out.mono (by omega))⟩
    · have hx := cmpF_out (l := f1) (m := f2) (j := j) (R := R) (HNF.out ▸ hj) (HNF'.out ▸ hj') (by intro h; exact hb ⟨by have := HNF.out; omega, by have := HNF'.out; omega⟩) HREL.out
      rw [← HNF.out, ← HNF'.out] at hx
      have x4 : wr.cell? ⟨w.heap.size, 5, none⟩ = some (.slice pf1 nf cf1) := (HD1.out.below HBW.out hlt1).cell rfl
      have y4 : wr.cell? ⟨w.heap.size + 1, 5, none⟩ = some (.slice pf2 nf' cf2) := (HD2.out.below HBW.out hlt2).cell rfl
      clear hb
      rcases hx with ⟨rfl, hlt, hR1⟩ | ⟨rfl, hlt, hR1⟩ | ⟨hlt, rfl, hR1⟩
      · have HR1 := Lib.hid hR1
        have a1 : decide ((j : Int) < (nf' : Int)) = true := by simp; omega
        have a2 : decide ((nf' : Int) < (j : Int)) = false := by simp; omega
        have a3 : decide (j < nf') = true := by simp; omega
        have a4 : decide (nf' < j) = false := by simp; omega
        have a5 : ¬ nf' < j := by omega
        clear hR1
        go_wp2_with fail
        go_at_call 44
        refine (rorder_lt _).mono ?_
        rintro e' w1 ⟨rfl, rfl⟩
        go_wp2
        go_ret
        exact ⟨by rw [HR1.out]; rfl, Below.trans HB0.out (HBW.out.mono (by omega))⟩
      · have HR1 := Lib.hid hR1
        subst hlt
        clear hR1
        go_wp2_with fail
        go_at_call 44
        refine (rorder_eq _).mono ?_
        rintro e' w1 ⟨rfl, rfl⟩
        go_wp2
        go_ret
        exact ⟨by rw [HR1.out]; rfl, Below.trans HB0.out (HBW.out.mono (by omega))⟩
      · have HR1 := Lib.hid hR1
        have a1 : decide ((j : Int) < (nf : Int)) = true := by simp; omega
        have a2 : decide ((nf : Int) < (j : Int)) = false := by simp; omega
        have a3 : decide (j < nf) = true := by simp; omega
        have a4 : decide (nf < j) = false := by simp; omega
        have a5 : ¬ nf < j := by omega
        clear hR1
        go_wp2_with fail
        go_at_call 44
        refine (rorder_gt _).mono ?_
        rintro e' w1 ⟨rfl, rfl⟩
        go_wp2
        go_ret
        exact ⟨by rw [HR1.out]; rfl, Below.trans HB0.out (HBW.out.mono (by omega))⟩
  rw [if_neg h6] at hR
  have q6 : ((k1 : Int) == 6) = false := by simp; omega
  have HR := Lib.hid hR
  clear hR h1 h2 h34 h5 h6
  go_wp2
  go_ret
  exact ⟨by rw [HR.out]; rfl, HB0.out⟩
theorem rcmp_all : ∀ (m : Nat) (v : DVal), SizeOf.sizeOf v < m → RCmpOk v := by
  intro m
  induction m with
  | zero => intro v h; omega
  | succ m ih =>
    intro v h
    obtain ⟨k, b, n, s, l, f⟩ := v
    exact rcmp_step k b n s l f (fun v hv => ih v (by have := DVal.size_l (k := k) (b := b) (n := n) (s := s) (f := f) v hv; omega)) (fun p hp => ih p.2 (by have := DVal.size_f (k := k) (b := b) (n := n) (s := s) (l := l) p hp; omega))
theorem rcmp_any (v : DVal) : RCmpOk v := rcmp_all _ v (Nat.lt_succ_self _)
end Go.Proofs.YthcojmpigdojoaaDoor
