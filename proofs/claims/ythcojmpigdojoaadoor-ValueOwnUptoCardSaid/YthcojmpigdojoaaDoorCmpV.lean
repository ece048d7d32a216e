/- value.Compare and what it calls. Condition: both values lie in memory. -/
import Derived.Test.YthcojmpigdojoaaDoorCmp
set_option linter.unusedVariables false
set_option linter.unusedSimpArgs false
namespace Go.Proofs.YthcojmpigdojoaaDoor
open Go Go.RowKit Go.BigFrame
set_option maxRecDepth 100000

mutual
/-- How a value stands to another one. -/
def cmpV : DVal → DVal → Int
  | .mk k b n s l f, .mk k' b' n' s' l' f' => if k ≠ k' then cmpI k k' else if k = 1 then (if b = b' then 0 else if b' then -1 else 1) else if k = 2 then cmpI n n' else if k = 3 ∨ k = 4 then cmpS s s' else if k = 5 then cmpL l l' else if k = 6 then cmpF f f' else 0
def cmpL : List DVal → List DVal → Int
  | [], [] => 0
  | [], _ :: _ => -1
  | _ :: _, [] => 1
  | a :: l, b :: m => orC (cmpV a b) (cmpL l m)
def cmpF : List (List UInt8 × DVal) → List (List UInt8 × DVal) → Int
  | [], [] => 0
  | [], _ :: _ => -1
  | _ :: _, [] => 1
  | (x, a) :: l, (y, b) :: m => orC (orC (cmpS x y) (cmpV a b)) (cmpF l m)
end
def cmpP (p q : List UInt8 × DVal) : Int := orC (cmpS p.1 q.1) (cmpV p.2 q.2)
theorem cmpL_drop {l m : List DVal} {i : Nat} (h : i < l.length) (h' : i < m.length) : cmpL (l.drop i) (m.drop i) = orC (cmpV l[i] m[i]) (cmpL (l.drop (i + 1)) (m.drop (i + 1))) := by
  rw [List.drop_eq_getElem_cons h, List.drop_eq_getElem_cons h', cmpL]
theorem cmpF_drop {l m : List (List UInt8 × DVal)} {i : Nat} (h : i < l.length) (h' : i < m.length) : cmpF (l.drop i) (m.drop i) = orC (cmpP l[i] m[i]) (cmpF (l.drop (i + 1)) (m.drop (i + 1))) := by
  rw [List.drop_eq_getElem_cons h, List.drop_eq_getElem_cons h']
  generalize l[i] = p
  generalize m[i] = q
  obtain ⟨x, v⟩ := p
  obtain ⟨y, u⟩ := q
  rw [cmpF, cmpP]
def CmpOk (a : DVal) : Prop := ∀ (b : DVal) (S S' : Nat → Prop) (cs cs' : List Value) (w : World), HasVal S w a cs → HasVal S' w b cs' →
  Calls Tryd.prog 20 #[.agg cs.toArray, .agg cs'.toArray] w fun e' w' => e' = .returned (.int .i64 (cmpV a b)) ∧ Below w.heap.size w w'
set_option maxHeartbeats 2000000 in
theorem fields_any (a : DVal) (hok : CmpOk a) (x y : List UInt8) (b : DVal) (S S' : Nat → Prop) (cs cs' : List Value) (w : World) (ha : HasVal S w a cs) (hb : HasVal S' w b cs') :
    Calls Tryd.prog 43 #[.agg (Value.string (bs x) :: cs).toArray, .agg (Value.string (bs y) :: cs').toArray] w fun e' w' => e' = .returned (.int .i64 (orC (cmpS x y) (cmpV a b))) ∧ Below w.heap.size w w' := by
  have HA := Lib.hid ha
  have HB := Lib.hid hb
  have HOK := Lib.hid hok
  obtain ⟨q, hq⟩ : ∃ q, q = cmpV a b := ⟨_, rfl⟩
  rw [← hq]
  have HQ := Lib.hid hq
  clear hq hok
  obtain ⟨k1, b1, n1, s1, l1, f1⟩ := a
  obtain ⟨k2, b2, n2, s2, l2, f2⟩ := b
  obtain ⟨pl1, cl1, pf1, cf1, rfl, h1⟩ := hasVal_mk.1 ha
  obtain ⟨pl2, cl2, pf2, cf2, rfl, h2⟩ := hasVal_mk.1 hb
  clear ha hb h1 h2
  show Calls Tryd.prog 43 #[.agg #[.string (bs x), .int .u8 (k1 : Int), .bool b1, .int .i64 n1, .string (bs s1), .slice pl1 l1.length cl1, .slice pf1 f1.length cf1], .agg #[.string (bs y), .int .u8 (k2 : Int), .bool b2, .int .i64 n2, .string (bs s2), .slice pl2 l2.length cl2, .slice pf2 f2.length cf2]] w _
  go_enter Tryd.func43, Tryd.ntmps43
  go_upto_region 1 with (fail)
  generalize hW0 : World.alloc (World.alloc w _) _ = W0
  have hd1 : IsBlk W0 w.heap.size #[.string (bs x), .int .u8 (k1 : Int), .bool b1, .int .i64 n1, .string (bs s1), .slice pl1 l1.length cl1, .slice pf1 f1.length cf1] 38 := by rw [← hW0]; exact (IsBlk.new _ _ _).alloc _
  have hd2 : IsBlk W0 (w.heap.size + 1) #[.string (bs y), .int .u8 (k2 : Int), .bool b2, .int .i64 n2, .string (bs s2), .slice pl2 l2.length cl2, .slice pf2 f2.length cf2] 38 := by rw [← hW0]; exact IsBlk.new_at (by simp)
  have hb0 : Below w.heap.size w W0 := by rw [← hW0]; exact ((Below.refl _ _).alloc (Nat.le_refl _) _).alloc (by simp) _
  clear hW0
  have hlt1 := hd1.lt
  have hlt2 := hd2.lt
  have d0 := hd1.cell (i := 0) rfl
  have d1 := hd1.cell (i := 1) rfl
  have d2 := hd1.cell (i := 2) rfl
  have d3 := hd1.cell (i := 3) rfl
  have d4 := hd1.cell (i := 4) rfl
  have d5 := hd1.cell (i := 5) rfl
  have d6 := hd1.cell (i := 6) rfl
  have e0 := hd2.cell (i := 0) rfl
  have e1 := hd2.cell (i := 1) rfl
  have e2 := hd2.cell (i := 2) rfl
  have e3 := hd2.cell (i := 3) rfl
  have e4 := hd2.cell (i := 4) rfl
  have e5 := hd2.cell (i := 5) rfl
  have e6 := hd2.cell (i := 6) rfl
  have HB0 := Lib.hid hb0
  clear hd1 hd2 hb0
  refine mix_start [] (Cls W0) (by kernel_rfl) (Cls.of ((Below.refl _ _).drew)) ?_
  refine mix_flt (by kernel_rfl) [0, 1, 2, 3, 5, 6, 7, 8] 5 _ _ (by kernel_rfl) ?_
  simp only [opsAt, List.map_cons, List.map_nil, List.toList_toArray, List.getD_cons_succ, List.getD_cons_zero]
  unfold Cls
  repeat (go_big_quiet_step (fail))
  refine wpQuiet_nil ?_
  (try rw [← Cls_def])
  refine mix_ch (i := 4) (fuel := 4) (by kernel_rfl) _ rfl (fun w1 hw1 => ?_)
  go_wp2_with (go_at_call 40; refine (cmp_str_any _ _ _).mono ?_; rintro e' w' ⟨rfl, rfl⟩)
  refine Then.same (hw1) ?_
  refine mix_ch (i := 9) (fuel := 3) (by kernel_rfl) _ rfl (fun w1 hw1 => ?_)
  go_wp2_with (go_at_call 20; refine (HOK.out (.mk k2 b2 n2 s2 l2 f2) S S' _ _ _ (HA.out.ext (below_ext HB0.out hw1.below)) (HB.out.ext (below_ext HB0.out hw1.below))).mono ?_; rintro e' w' ⟨he, hb⟩; rw [← HQ.out] at he; subst he)
  refine Then.same (hw1.trans hb) ?_
  refine mix_ch (i := 10) (fuel := 2) (by kernel_rfl) _ rfl (fun w1 hw1 => ?_)
  go_wp2_with (fail)
  refine Then.alloc hw1 ?_
  have hwa := hw1
  obtain ⟨wa, rfl⟩ : ∃ wo : World, wo = w1 := ⟨_, rfl⟩
  refine mix_ch (i := 11) (fuel := 1) (by kernel_rfl) _ rfl (fun w1 hw1 => ?_)
  go_wp2_with (go_at_call 72; refine (or_any wa.heap.size _ _ _ _ ((IsBlk.new wa _ _).ext hw1.below)).mono ?_; rintro e' w' ⟨rfl, rfl⟩)
  refine Then.same (hw1) ?_
  refine mix_flt (by kernel_rfl) [12] 0 _ _ (by kernel_rfl) ?_
  simp only [opsAt, List.map_cons, List.map_nil, List.toList_toArray, List.getD_cons_succ, List.getD_cons_zero]
  unfold Cls
  repeat (go_big_quiet_step (fail))
  refine wpQuiet_nil ?_
  (try rw [← Cls_def])
  refine mix_end [] (by kernel_rfl) (fun w1 hw1 => ?_)
  refine wpList_nil ?_
  refine Calm.normal ?_
  have HB2 := Lib.hid (below_ext HB0.out (below_ext (hwa.below.alloc (by have := hwa.below.size; omega) _) hw1.below))
  go_wp2
  go_ret
  exact ⟨rfl, HB2.out⟩
set_option maxHeartbeats 4000000 in
theorem cmpfFl_any (l m : List DVal) (ih : ∀ v ∈ l, CmpOk v) (S S' : Nat → Prop) (pl pm : Option Addr) (cl cm : Nat) (w : World) (hll : l.length ≤ 1073741824) (hlm : m.length ≤ 1073741824) (hl : HasL S w pl l) (hm : HasL S' w pm m) :
    Calls Tryd.prog 70 #[.slice pl l.length cl, .slice pm m.length cm, .func (.func 20) #[] #[]] w fun e' w' => e' = .returned (.int .i64 (cmpL l m)) ∧ Below w.heap.size w w' := by
  obtain ⟨R, hR⟩ : ∃ R, R = cmpL l m := ⟨_, rfl⟩
  rw [← hR]
  obtain ⟨nl, hnl⟩ : ∃ nl, nl = l.length := ⟨_, rfl⟩
  obtain ⟨nm, hnm⟩ : ∃ nm, nm = m.length := ⟨_, rfl⟩
  rw [← hnl, ← hnm]
  rw [← hnl] at hll
  rw [← hnm] at hlm
  have HNL := Lib.hid hnl
  have HNM := Lib.hid hnm
  have HL := Lib.hid hl
  have HM := Lib.hid hm
  have HI := Lib.hid ih
  have HR := Lib.hid hR
  clear hnl hnm hl hm ih hR
  go_enter Tryd.func70, Tryd.ntmps70
  go_wp2
  go_loopw [13] (fun i wr => ∃ j : Nat, i = .int .i64 j ∧ j ≤ nl ∧ j ≤ nm ∧ cmpL (l.drop j) (m.drop j) = R ∧ Below w.heap.size w wr) (fun i _ => nl - (intOf i).toNat)
  case atStart => exact ⟨0, rfl, by omega, by omega, HR.out.symm, Below.refl _ _⟩
  case round =>
  clear HR
  obtain ⟨j, rfl, hj, hjm, hrel, hbw⟩ := hrel
  have HREL := Lib.hid hrel
  have HBW := Lib.hid hbw
  clear hrel hbw
  by_cases hlt : j < nl
  · by_cases hlm2 : j < nm
    case neg =>
      have hr : R = 1 := by
        rw [← HREL.out, List.drop_eq_nil_of_le (show m.length ≤ j by rw [← HNM.out]; omega), List.drop_eq_getElem_cons (show j < l.length by rw [← HNL.out]; exact hlt)]
        rfl
      have HS := Lib.hid hr
      clear hr
      have hj1 : j < l.length := by rw [← HNL.out]; exact hlt
      have hIge : (nm : Int) ≤ (j : Int) := by omega
      obtain ⟨g1, o1, cs1, hp1, hc1, hv1⟩ := (HL.out.ext HBW.out) j hj1
      generalize l[j] = u1 at hv1
      obtain ⟨k1, b1, n1, s1, l1, f1⟩ := u1
      have HV1 := Lib.hid hv1
      obtain ⟨pl1, cl1, pf1, cf1, rfl, hrr1⟩ := hasVal_mk.1 hv1
      obtain ⟨d0, d1, d2, d3, d4, d5⟩ := hc1.six
      have hg1 := hc1.2.1
      clear hv1 hc1 hrr1
      subst hp1
      go_wp2
      go_ret
      exact ⟨by rw [HS.out]; rfl, HBW.out.alloc (HBW.out.size) _⟩
    have hj1 : j < l.length := by rw [← HNL.out]; exact hlt
    have hj2 : j < m.length := by rw [← HNM.out]; exact hlm2
    have hdr := cmpL_drop hj1 hj2
    have hok := HI.out _ (List.getElem_mem hj1)
    obtain ⟨g1, o1, cs1, hp1, hc1, hv1⟩ := (HL.out.ext HBW.out) j hj1
    obtain ⟨g2, o2, cs2, hp2, hc2, hv2⟩ := (HM.out.ext HBW.out) j hj2
    generalize l[j] = u1 at hv1 hdr hok
    obtain ⟨k1, b1, n1, s1, l1, f1⟩ := u1
    have HV1 := Lib.hid hv1
    obtain ⟨pl1, cl1, pf1, cf1, rfl, hrr1⟩ := hasVal_mk.1 hv1
    obtain ⟨d0, d1, d2, d3, d4, d5⟩ := hc1.six
    have hg1 := hc1.2.1
    clear hv1 hc1 hrr1
    subst hp1
    generalize m[j] = u2 at hv2 hdr
    obtain ⟨k2, b2, n2, s2, l2, f2⟩ := u2
    have HV2 := Lib.hid hv2
    obtain ⟨pl2, cl2, pf2, cf2, rfl, hrr2⟩ := hasVal_mk.1 hv2
    obtain ⟨e0, e1, e2, e3, e4, e5⟩ := hc2.six
    have hg2 := hc2.2.1
    clear hv2 hc2 hrr2
    subst hp2
    have HDR := Lib.hid hdr
    have HOK := Lib.hid hok
    obtain ⟨q, hq⟩ : ∃ q, q = cmpV (.mk k1 b1 n1 s1 l1 f1) (.mk k2 b2 n2 s2 l2 f2) := ⟨_, rfl⟩
    have HQ := Lib.hid hq
    clear hdr hok hq
    have HBX : Hid (Below wr.heap.size wr ((wr.alloc (.cells #[.int .u8 (k1 : Int), .bool b1, .int .i64 n1, .string (bs s1), .slice pl1 l1.length cl1, .slice pf1 f1.length cf1] 26)).alloc (.cells #[.int .u8 (k2 : Int), .bool b2, .int .i64 n2, .string (bs s2), .slice pl2 l2.length cl2, .slice pf2 f2.length cf2] 26))) := Lib.hid (((Below.refl _ _).alloc (Nat.le_refl _) _).alloc (by simp) _)
    go_wp2_with fail
    go_at_call 20
    refine (HOK.out (.mk k2 b2 n2 s2 l2 f2) S S' _ _ _ (HV1.out.ext HBX.out) (HV2.out.ext HBX.out)).mono ?_
    rintro e' w1 ⟨he, hb⟩
    rw [← HQ.out] at he
    subst he
    have HB1 := Lib.hid (HBW.out.trans ((below_ext HBX.out hb).mono HBW.out.size))
    clear hb d0 d1 d2 d3 d4 d5 e0 e1 e2 e3 e4 e5
    by_cases hq0 : q = 0
    · have hrel2 : cmpL (l.drop (j + 1)) (m.drop (j + 1)) = R := by rw [← HREL.out, HDR.out, ← HQ.out, hq0]; rfl
      have HREL2 := Lib.hid hrel2
      clear hrel2
      subst hq0
      go_wp2
      go_roundw
      case rel => exact ⟨j + 1, by go_num, by omega, by omega, HREL2.out, HB1.out⟩
      case measure => simp [intOf]; omega
    · have hr : R = q := by rw [← HREL.out, HDR.out, ← HQ.out, orC, if_neg hq0]
      have HS := Lib.hid hr
      have hqb : (q != 0) = true := by simpa using hq0
      clear hr hq0
      go_wp2
      go_ret
      exact ⟨by rw [HS.out]; rfl, HB1.out⟩
  · have hr : R = if nl < nm then -1 else 0 := by
      rw [← HREL.out, List.drop_eq_nil_of_le (show l.length ≤ j by rw [← HNL.out]; omega)]
      by_cases h : nl < nm
      · rw [if_pos h, List.drop_eq_getElem_cons (show j < m.length by rw [← HNM.out]; omega)]
        rfl
      · rw [if_neg h, List.drop_eq_nil_of_le (show m.length ≤ j by rw [← HNM.out]; omega)]
        rfl
    have HS := Lib.hid hr
    clear hr
    by_cases h : nl < nm
    · go_wp2
      go_ret
      exact ⟨by rw [HS.out, if_pos h]; rfl, HBW.out⟩
    · have hge : (nm : Int) ≤ (nl : Int) := by omega
      go_wp2
      go_ret
      exact ⟨by rw [HS.out, if_neg h]; rfl, HBW.out⟩
set_option maxHeartbeats 4000000 in
theorem cmpfFf_any (l m : List (List UInt8 × DVal)) (ih : ∀ v ∈ l, CmpOk v.2) (S S' : Nat → Prop) (pl pm : Option Addr) (cl cm : Nat) (w : World) (hll : l.length ≤ 1073741824) (hlm : m.length ≤ 1073741824) (hl : HasF S w pl l) (hm : HasF S' w pm m) :
    Calls Tryd.prog 71 #[.slice pl l.length cl, .slice pm m.length cm, .func (.func 43) #[] #[]] w fun e' w' => e' = .returned (.int .i64 (cmpF l m)) ∧ Below w.heap.size w w' := by
  obtain ⟨R, hR⟩ : ∃ R, R = cmpF l m := ⟨_, rfl⟩
  rw [← hR]
  obtain ⟨nl, hnl⟩ : ∃ nl, nl = l.length := ⟨_, rfl⟩
  obtain ⟨nm, hnm⟩ : ∃ nm, nm = m.length := ⟨_, rfl⟩
  rw [← hnl, ← hnm]
  rw [← hnl] at hll
  rw [← hnm] at hlm
  have HNL := Lib.hid hnl
  have HNM := Lib.hid hnm
  have HL := Lib.hid hl
  have HM := Lib.hid hm
  have HI := Lib.hid ih
  have HR := Lib.hid hR
  clear hnl hnm hl hm ih hR
  go_enter Tryd.func71, Tryd.ntmps71
  go_wp2
  go_loopw [13] (fun i wr => ∃ j : Nat, i = .int .i64 j ∧ j ≤ nl ∧ j ≤ nm ∧ cmpF (l.drop j) (m.drop j) = R ∧ Below w.heap.size w wr) (fun i _ => nl - (intOf i).toNat)
  case atStart => exact ⟨0, rfl, by omega, by omega, HR.out.symm, Below.refl _ _⟩
  case round =>
  clear HR
  obtain ⟨j, rfl, hj, hjm, hrel, hbw⟩ := hrel
  have HREL := Lib.hid hrel
  have HBW := Lib.hid hbw
  clear hrel hbw
  by_cases hlt : j < nl
  · by_cases hlm2 : j < nm
    case neg =>
      have hr : R = 1 := by
        rw [← HREL.out, List.drop_eq_nil_of_le (show m.length ≤ j by rw [← HNM.out]; omega), List.drop_eq_getElem_cons (show j < l.length by rw [← HNL.out]; exact hlt)]
        rfl
      have HS := Lib.hid hr
      clear hr
      have hj1 : j < l.length := by rw [← HNL.out]; exact hlt
      have hIge : (nm : Int) ≤ (j : Int) := by omega
      obtain ⟨g1, o1, cs1, hp1, ⟨hx1, hc1⟩, hv1⟩ := (HL.out.ext HBW.out) j hj1
      generalize l[j] = u1 at hv1 hc1 hx1
      obtain ⟨x1, v1⟩ := u1
      simp only [] at hv1 hc1 hx1
      obtain ⟨k1, b1, n1, s1, l1, f1⟩ := v1
      have HV1 := Lib.hid hv1
      obtain ⟨pl1, cl1, pf1, cf1, rfl, hrr1⟩ := hasVal_mk.1 hv1
      obtain ⟨d0, d1, d2, d3, d4, d5, d6⟩ := hc1.seven
      have hg1 := hc1.2.1
      clear hv1 hc1 hrr1
      subst hp1
      go_wp2
      go_ret
      exact ⟨by rw [HS.out]; rfl, HBW.out.alloc (HBW.out.size) _⟩
    have hj1 : j < l.length := by rw [← HNL.out]; exact hlt
    have hj2 : j < m.length := by rw [← HNM.out]; exact hlm2
    have hdr := cmpF_drop hj1 hj2
    have hok := HI.out _ (List.getElem_mem hj1)
    obtain ⟨g1, o1, cs1, hp1, ⟨hx1, hc1⟩, hv1⟩ := (HL.out.ext HBW.out) j hj1
    obtain ⟨g2, o2, cs2, hp2, ⟨hx2, hc2⟩, hv2⟩ := (HM.out.ext HBW.out) j hj2
    generalize l[j] = u1 at hv1 hc1 hx1 hdr hok
    obtain ⟨x1, v1⟩ := u1
    simp only [] at hv1 hc1 hx1 hdr hok
    obtain ⟨k1, b1, n1, s1, l1, f1⟩ := v1
    have HV1 := Lib.hid hv1
    obtain ⟨pl1, cl1, pf1, cf1, rfl, hrr1⟩ := hasVal_mk.1 hv1
    obtain ⟨d0, d1, d2, d3, d4, d5, d6⟩ := hc1.seven
    have hg1 := hc1.2.1
    clear hv1 hc1 hrr1
    subst hp1
    generalize m[j] = u2 at hv2 hc2 hx2 hdr
    obtain ⟨x2, v2⟩ := u2
    simp only [] at hv2 hc2 hx2 hdr
    obtain ⟨k2, b2, n2, s2, l2, f2⟩ := v2
    have HV2 := Lib.hid hv2
    obtain ⟨pl2, cl2, pf2, cf2, rfl, hrr2⟩ := hasVal_mk.1 hv2
    obtain ⟨e0, e1, e2, e3, e4, e5, e6⟩ := hc2.seven
    have hg2 := hc2.2.1
    clear hv2 hc2 hrr2
    subst hp2
    have HDR := Lib.hid hdr
    have HOK := Lib.hid hok
    obtain ⟨q, hq⟩ : ∃ q, q = cmpP (x1, .mk k1 b1 n1 s1 l1 f1) (x2, .mk k2 b2 n2 s2 l2 f2) := ⟨_, rfl⟩
    have HQ := Lib.hid hq
    clear hdr hok hq
    have HBX : Hid (Below wr.heap.size wr ((wr.alloc (.cells #[.string (bs x1), .int .u8 (k1 : Int), .bool b1, .int .i64 n1, .string (bs s1), .slice pl1 l1.length cl1, .slice pf1 f1.length cf1] 38)).alloc (.cells #[.string (bs x2), .int .u8 (k2 : Int), .bool b2, .int .i64 n2, .string (bs s2), .slice pl2 l2.length cl2, .slice pf2 f2.length cf2] 38))) := Lib.hid (((Below.refl _ _).alloc (Nat.le_refl _) _).alloc (by simp) _)
    go_wp2_with fail
    go_at_call 43
    refine (fields_any (.mk k1 b1 n1 s1 l1 f1) HOK.out x1 x2 (.mk k2 b2 n2 s2 l2 f2) S S' _ _ _ (HV1.out.ext HBX.out) (HV2.out.ext HBX.out)).mono ?_
    rintro e' w1 ⟨he, hb⟩
    change e' = .returned (.int .i64 (cmpP (x1, .mk k1 b1 n1 s1 l1 f1) (x2, .mk k2 b2 n2 s2 l2 f2))) at he
    rw [← HQ.out] at he
    subst he
    have HB1 := Lib.hid (HBW.out.trans ((below_ext HBX.out hb).mono HBW.out.size))
    clear hb d0 d1 d2 d3 d4 d5 d6 e0 e1 e2 e3 e4 e5 e6
    by_cases hq0 : q = 0
    · have hrel2 : cmpF (l.drop (j + 1)) (m.drop (j + 1)) = R := by rw [← HREL.out, HDR.out, ← HQ.out, hq0]; rfl
      have HREL2 := Lib.hid hrel2
      clear hrel2
      subst hq0
      go_wp2
      go_roundw
      case rel => exact ⟨j + 1, by go_num, by omega, by omega, HREL2.out, HB1.out⟩
      case measure => simp [intOf]; omega
    · have hr : R = q := by rw [← HREL.out, HDR.out, ← HQ.out, orC, if_neg hq0]
      have HS := Lib.hid hr
      have hqb : (q != 0) = true := by simpa using hq0
      clear hr hq0
      go_wp2
      go_ret
      exact ⟨by rw [HS.out]; rfl, HB1.out⟩
  · have hr : R = if nl < nm then -1 else 0 := by
      rw [← HREL.out, List.drop_eq_nil_of_le (show l.length ≤ j by rw [← HNL.out]; omega)]
      by_cases h : nl < nm
      · rw [if_pos h, List.drop_eq_getElem_cons (show j < m.length by rw [← HNM.out]; omega)]
        rfl
      · rw [if_neg h, List.drop_eq_nil_of_le (show m.length ≤ j by rw [← HNM.out]; omega)]
        rfl
    have HS := Lib.hid hr
    clear hr
    by_cases h : nl < nm
    · go_wp2
      go_ret
      exact ⟨by rw [HS.out, if_pos h]; rfl, HBW.out⟩
    · have hge : (nm : Int) ≤ (nl : Int) := by omega
      go_wp2
      go_ret
      exact ⟨by rw [HS.out, if_neg h]; rfl, HBW.out⟩
theorem eachV_any (l m : List DVal) (ih : ∀ v ∈ l, CmpOk v) (S S' : Nat → Prop) (pl pm : Option Addr) (cl cm : Nat) (w : World) (hll : l.length ≤ 1073741824) (hlm : m.length ≤ 1073741824) (hl : HasL S w pl l) (hm : HasL S' w pm m) :
    Calls Tryd.prog 41 #[.slice pl l.length cl, .slice pm m.length cm, .func (.func 20) #[] #[]] w fun e' w' => e' = .returned (.int .i64 (cmpL l m)) ∧ Below w.heap.size w w' := by
  obtain ⟨R, hR⟩ : ∃ R, R = cmpL l m := ⟨_, rfl⟩
  rw [← hR]
  have HR := Lib.hid hR
  obtain ⟨nl, hnl⟩ : ∃ nl, nl = l.length := ⟨_, rfl⟩
  obtain ⟨nm, hnm⟩ : ∃ nm, nm = m.length := ⟨_, rfl⟩
  have HC := Lib.hid (cmpfFl_any l m ih S S' pl pm cl cm w hll hlm hl hm)
  rw [← hnl, ← hnm, ← hR] at HC
  rw [← hnl, ← hnm]
  clear hR hnl hnm ih hll hlm hl hm HR
  go_enter Tryd.func41, Tryd.ntmps41
  go_wp2_with fail
  go_at_call 70
  refine HC.out.mono ?_
  rintro e' w1 ⟨rfl, hb⟩
  have HB := Lib.hid hb
  clear hb
  go_wp2
  go_ret
  exact ⟨rfl, HB.out⟩
theorem eachF_any (l m : List (List UInt8 × DVal)) (ih : ∀ v ∈ l, CmpOk v.2) (S S' : Nat → Prop) (pl pm : Option Addr) (cl cm : Nat) (w : World) (hll : l.length ≤ 1073741824) (hlm : m.length ≤ 1073741824) (hl : HasF S w pl l) (hm : HasF S' w pm m) :
    Calls Tryd.prog 42 #[.slice pl l.length cl, .slice pm m.length cm, .func (.func 43) #[] #[]] w fun e' w' => e' = .returned (.int .i64 (cmpF l m)) ∧ Below w.heap.size w w' := by
  obtain ⟨R, hR⟩ : ∃ R, R = cmpF l m := ⟨_, rfl⟩
  rw [← hR]
  have HR := Lib.hid hR
  obtain ⟨nl, hnl⟩ : ∃ nl, nl = l.length := ⟨_, rfl⟩
  obtain ⟨nm, hnm⟩ : ∃ nm, nm = m.length := ⟨_, rfl⟩
  have HC := Lib.hid (cmpfFf_any l m ih S S' pl pm cl cm w hll hlm hl hm)
  rw [← hnl, ← hnm, ← hR] at HC
  rw [← hnl, ← hnm]
  clear hR hnl hnm ih hll hlm hl hm HR
  go_enter Tryd.func42, Tryd.ntmps42
  go_wp2_with fail
  go_at_call 71
  refine HC.out.mono ?_
  rintro e' w1 ⟨rfl, hb⟩
  have HB := Lib.hid hb
  clear hb
  go_wp2
  go_ret
  exact ⟨rfl, HB.out⟩
set_option maxHeartbeats 8000000 in
theorem cmp_step (k1 : Nat) (b1 : Bool) (n1 : Int) (s1 : List UInt8) (l1 : List DVal) (f1 : List (List UInt8 × DVal)) (ihL : ∀ v ∈ l1, CmpOk v) (ihF : ∀ v ∈ f1, CmpOk v.2) : CmpOk (.mk k1 b1 n1 s1 l1 f1) := by
  intro v S S' cs cs' w hv hv'
  obtain ⟨k2, b2, n2, s2, l2, f2⟩ := v
  obtain ⟨pl1, cl1, pf1, cf1, rfl, hbd, hL, hF⟩ := hasVal_mk.1 hv
  obtain ⟨pl2, cl2, pf2, cf2, rfl, hbd', hL', hF'⟩ := hasVal_mk.1 hv'
  clear hv hv'
  obtain ⟨R, hR⟩ : ∃ R, R = cmpV (.mk k1 b1 n1 s1 l1 f1) (.mk k2 b2 n2 s2 l2 f2) := ⟨_, rfl⟩
  rw [← hR]
  rw [cmpV] at hR
  have HHL := Lib.hid (eachV_any l1 l2 ihL S S' pl1 pl2 cl1 cl2)
  have HHF := Lib.hid (eachF_any f1 f2 ihF S S' pf1 pf2 cf1 cf2)
  have HBD := Lib.hid hbd
  have HBD' := Lib.hid hbd'
  have HL := Lib.hid hL
  have HL' := Lib.hid hL'
  have HF := Lib.hid hF
  have HF' := Lib.hid hF'
  show Calls Tryd.prog 20 #[.agg #[.int .u8 (k1 : Int), .bool b1, .int .i64 n1, .string (bs s1), .slice pl1 l1.length cl1, .slice pf1 f1.length cf1], .agg #[.int .u8 (k2 : Int), .bool b2, .int .i64 n2, .string (bs s2), .slice pl2 l2.length cl2, .slice pf2 f2.length cf2]] w _
  clear hbd hbd' hL hL' hF hF' ihL ihF
  go_enter Tryd.func20, Tryd.ntmps20
  go_upto_region 1 with (fail)
  generalize hW0 : World.alloc (World.alloc w _) _ = W0
  have hd1 : IsBlk W0 w.heap.size #[.int .u8 (k1 : Int), .bool b1, .int .i64 n1, .string (bs s1), .slice pl1 l1.length cl1, .slice pf1 f1.length cf1] 26 := by rw [← hW0]; exact (IsBlk.new _ _ _).alloc _
  have hd2 : IsBlk W0 (w.heap.size + 1) #[.int .u8 (k2 : Int), .bool b2, .int .i64 n2, .string (bs s2), .slice pl2 l2.length cl2, .slice pf2 f2.length cf2] 26 := by rw [← hW0]; exact IsBlk.new_at (by simp)
  have hb0 : Below w.heap.size w W0 := by rw [← hW0]; exact ((Below.refl _ _).alloc (Nat.le_refl _) _).alloc (by simp) _
  clear hW0
  have HB0 := Lib.hid hb0
  have d0 := hd1.cell (i := 0) rfl
  have d1 := hd1.cell (i := 1) rfl
  have d2 := hd1.cell (i := 2) rfl
  have d3 := hd1.cell (i := 3) rfl
  have d4 := hd1.cell (i := 4) rfl
  have d5 := hd1.cell (i := 5) rfl
  have e0 := hd2.cell (i := 0) rfl
  have e1 := hd2.cell (i := 1) rfl
  have e2 := hd2.cell (i := 2) rfl
  have e3 := hd2.cell (i := 3) rfl
  have e4 := hd2.cell (i := 4) rfl
  have e5 := hd2.cell (i := 5) rfl
  clear hd1 hd2 hb0
  by_cases hk : k1 = k2
  case neg =>
    rw [if_pos hk] at hR
    have HR := Lib.hid hR
    have hkb : ((k1 : Int) != (k2 : Int)) = true := by simp; omega
    clear hR hk
    go_wp2_with fail
    go_at_call 38
    refine (cmp_kind_any _ _ _).mono ?_
    rintro e' w1 ⟨he, rfl⟩
    rw [← HR.out] at he
    subst he
    go_wp2
    go_ret
    exact ⟨rfl, HB0.out⟩
  subst hk
  rw [if_neg (by simp)] at hR
  have hkb : ((k1 : Int) != (k1 : Int)) = false := by simp
  by_cases h1 : k1 = 1
  · rw [if_pos h1] at hR
    have HR := Lib.hid hR
    clear hR
    subst h1
    cases b1 <;> cases b2
    all_goals
      go_wp2
      go_ret
      exact ⟨by rw [HR.out]; rfl, HB0.out⟩
  rw [if_neg h1] at hR
  have q1 : ((k1 : Int) == 1) = false := by simp; omega
  by_cases h2 : k1 = 2
  · rw [if_pos h2] at hR
    have HR := Lib.hid hR
    clear hR h1 q1
    subst h2
    go_wp2_with fail
    go_at_call 39
    refine (cmp_i64_any _ _ _).mono ?_
    rintro e' w1 ⟨he, rfl⟩
    rw [← HR.out] at he
    subst he
    go_wp2
    go_ret
    exact ⟨rfl, HB0.out⟩
  rw [if_neg h2] at hR
  have q2 : ((k1 : Int) == 2) = false := by simp; omega
  by_cases h34 : k1 = 3 ∨ k1 = 4
  · rw [if_pos h34] at hR
    have HR := Lib.hid hR
    clear hR h1 h2 q1 q2
    rcases h34 with rfl | rfl
    all_goals
      go_wp2_with fail
      go_at_call 40
      refine (cmp_str_any _ _ _).mono ?_
      rintro e' w1 ⟨he, rfl⟩
      rw [← HR.out] at he
      subst he
      go_wp2
      go_ret
      exact ⟨rfl, HB0.out⟩
  rw [if_neg h34] at hR
  have q3 : ((k1 : Int) == 3) = false := by simp; omega
  have q4 : ((k1 : Int) == 4) = false := by simp; omega
  by_cases h5 : k1 = 5
  · rw [if_pos h5] at hR
    have HR := Lib.hid hR
    clear hR h1 h2 h34 q1 q2 q3 q4
    subst h5
    go_wp2_with fail
    go_at_call 41
    refine (HHL.out _ (HBD.out.2.2.2.2.1) (HBD'.out.2.2.2.2.1) (HL.out.ext HB0.out) (HL'.out.ext HB0.out)).mono ?_
    rintro e' w1 ⟨he, hb⟩
    rw [← HR.out] at he
    subst he
    have HB1 := Lib.hid (below_ext HB0.out hb)
    clear hb
    go_wp2
    go_ret
    exact ⟨rfl, HB1.out⟩
  rw [if_neg h5] at hR
  have q5 : ((k1 : Int) == 5) = false := by simp; omega
  by_cases h6 : k1 = 6
  · rw [if_pos h6] at hR
    have HR := Lib.hid hR
    clear hR h1 h2 h34 h5 q1 q2 q3 q4 q5
    subst h6
    go_wp2_with fail
    go_at_call 42
    refine (HHF.out _ (HBD.out.2.2.2.2.2.1) (HBD'.out.2.2.2.2.2.1) (HF.out.ext HB0.out) (HF'.out.ext HB0.out)).mono ?_
    rintro e' w1 ⟨he, hb⟩
    rw [← HR.out] at he
    subst he
    have HB1 := Lib.hid (below_ext HB0.out hb)
    clear hb
    go_wp2
    go_ret
    exact ⟨rfl, HB1.out⟩
  rw [if_neg h6] at hR
  have q6 : ((k1 : Int) == 6) = false := by simp; omega
  have HR := Lib.hid hR
  clear hR h1 h2 h34 h5 h6
  go_wp2
  go_ret
  exact ⟨by rw [HR.out]; rfl, HB0.out⟩
theorem cmp_all : ∀ (m : Nat) (v : DVal), SizeOf.sizeOf v < m → CmpOk v := by
  intro m
  induction m with
  | zero => intro v h; omega
  | succ m ih =>
    intro v h
    obtain ⟨k, b, n, s, l, f⟩ := v
    exact cmp_step k b n s l f (fun v hv => ih v (by have := DVal.size_l (k := k) (b := b) (n := n) (s := s) (f := f) v hv; omega)) (fun p hp => ih p.2 (by have := DVal.size_f (k := k) (b := b) (n := n) (s := s) (l := l) p hp; omega))
theorem cmp_any (v : DVal) : CmpOk v := cmp_all _ v (Nat.lt_succ_self _)
end Go.Proofs.YthcojmpigdojoaaDoor
