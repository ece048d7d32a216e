/- value.Same and what it calls. Condition: both values lie in memory. -/
import Derived.Test.YthcojmpigdojoaaDoorRefSame
import Derived.Test.YthcojmpigdojoaaDoorChkSmall
import Derived.Test.YthcojmpigdojoaaDoorCmp
set_option linter.unusedVariables false
set_option linter.unusedSimpArgs false
namespace Go.Proofs.YthcojmpigdojoaaDoor
open Go Go.RowKit Go.BigFrame
set_option maxRecDepth 100000

def sameP (p q : List UInt8 × DVal) : Bool := p.1 == q.1 && sameV p.2 q.2
theorem sameF_dropP {l m : List (List UInt8 × DVal)} {i : Nat} (h : i < l.length) (h' : i < m.length) : sameF (l.drop i) (m.drop i) = (sameP l[i] m[i] && sameF (l.drop (i + 1)) (m.drop (i + 1))) := sameF_drop h h'
def SamOk (a : DVal) : Prop := ∀ (b : DVal) (S S' : Nat → Prop) (cs cs' : List Value) (w : World), HasVal S w a cs → HasVal S' w b cs' →
  Calls Tryd.prog 22 #[.agg cs.toArray, .agg cs'.toArray] w fun e' w' => e' = .returned (.bool (sameV a b)) ∧ Below w.heap.size w w'
set_option maxHeartbeats 2000000 in
theorem same1_any (a : DVal) (hok : SamOk a) (x y : List UInt8) (b : DVal) (S S' : Nat → Prop) (cs cs' : List Value) (w : World) (ha : HasVal S w a cs) (hb : HasVal S' w b cs') :
    Calls Tryd.prog 48 #[.agg (Value.string (bs x) :: cs).toArray, .agg (Value.string (bs y) :: cs').toArray] w fun e' w' => e' = .returned (.bool (x == y && sameV a b)) ∧ Below w.heap.size w w' := by
  have HA := Lib.hid ha
  have HB := Lib.hid hb
  have HOK := Lib.hid hok
  obtain ⟨q, hq⟩ : ∃ q, q = sameV a b := ⟨_, rfl⟩
  rw [← hq]
  have HQ := Lib.hid hq
  clear hq hok
  have hxe : ((bs x).toList == (bs y).toList) = (x == y) := by rw [tl_bs, tl_bs]
  generalize (x == y) = E at hxe ⊢
  obtain ⟨k1, b1, n1, s1, l1, f1⟩ := a
  obtain ⟨k2, b2, n2, s2, l2, f2⟩ := b
  obtain ⟨pl1, cl1, pf1, cf1, rfl, h1⟩ := hasVal_mk.1 ha
  obtain ⟨pl2, cl2, pf2, cf2, rfl, h2⟩ := hasVal_mk.1 hb
  clear ha hb h1 h2
  show Calls Tryd.prog 48 #[.agg #[.string (bs x), .int .u8 (k1 : Int), .bool b1, .int .i64 n1, .string (bs s1), .slice pl1 l1.length cl1, .slice pf1 f1.length cf1], .agg #[.string (bs y), .int .u8 (k2 : Int), .bool b2, .int .i64 n2, .string (bs s2), .slice pl2 l2.length cl2, .slice pf2 f2.length cf2]] w _
  go_enter Tryd.func48, Tryd.ntmps48
  go_upto_region 1 with (fail)
  generalize hW0 : World.alloc (World.alloc w _) _ = W0
  have hd1 : IsBlk W0 w.heap.size #[.string (bs x), .int .u8 (k1 : Int), .bool b1, .int .i64 n1, .string (bs s1), .slice pl1 l1.length cl1, .slice pf1 f1.length cf1] 38 := by rw [← hW0]; exact (IsBlk.new _ _ _).alloc _
  have hd2 : IsBlk W0 (w.heap.size + 1) #[.string (bs y), .int .u8 (k2 : Int), .bool b2, .int .i64 n2, .string (bs s2), .slice pl2 l2.length cl2, .slice pf2 f2.length cf2] 38 := by rw [← hW0]; exact IsBlk.new_at (by simp)
  have hb0 : Below w.heap.size w W0 := by rw [← hW0]; exact ((Below.refl _ _).alloc (Nat.le_refl _) _).alloc (by simp) _
  clear hW0
  have hlt1 := hd1.lt
  have hlt2 := hd2.lt
  have d0 := hd1.cell (i := 0) rfl
  have d1 := hd1.cell (i := 1) rfl
  have d2 := hd1.cell (i := 2) rfl
  have d3 := hd1.cell (i := 3) rfl
  have d4 := hd1.cell (i := 4) rfl
  have d5 := hd1.cell (i := 5) rfl
  have d6 := hd1.cell (i := 6) rfl
  have e0 := hd2.cell (i := 0) rfl
  have e1 := hd2.cell (i := 1) rfl
  have e2 := hd2.cell (i := 2) rfl
  have e3 := hd2.cell (i := 3) rfl
  have e4 := hd2.cell (i := 4) rfl
  have e5 := hd2.cell (i := 5) rfl
  have e6 := hd2.cell (i := 6) rfl
  have HB0 := Lib.hid hb0
  clear hd1 hd2 hb0
  cases E
  · go_wp2
    go_ret
    exact ⟨rfl, HB0.out⟩
  · go_wp2_with fail
    go_at_call 22
    refine (HOK.out (.mk k2 b2 n2 s2 l2 f2) S S' _ _ _ (HA.out.ext HB0.out) (HB.out.ext HB0.out)).mono ?_
    rintro e' w1 ⟨he, hb⟩
    rw [← HQ.out] at he
    subst he
    have HB1 := Lib.hid (below_ext HB0.out hb)
    clear hb d0 d1 d2 d3 d4 d5 d6 e0 e1 e2 e3 e4 e5 e6
    go_wp2
    go_ret
    exact ⟨rfl, HB1.out⟩
set_option maxHeartbeats 4000000 in
theorem eqfFl_any (l m : List DVal) (ih : ∀ v ∈ l, SamOk v) (S S' : Nat → Prop) (pl pm : Option Addr) (cl cm : Nat) (w : World) (hll : l.length ≤ 1073741824) (hlm : m.length ≤ 1073741824) (hl : HasL S w pl l) (hm : HasL S' w pm m) :
    Calls Tryd.prog 46 #[.slice pl l.length cl, .slice pm m.length cm, .func (.func 22) #[] #[]] w fun e' w' => e' = .returned (.bool (sameL l m)) ∧ Below w.heap.size w w' := by
  obtain ⟨R, hR⟩ : ∃ R, R = sameL l m := ⟨_, rfl⟩
  rw [← hR]
  obtain ⟨nl, hnl⟩ : ∃ nl, nl = l.length := ⟨_, rfl⟩
  obtain ⟨nm, hnm⟩ : ∃ nm, nm = m.length := ⟨_, rfl⟩
  rw [← hnl, ← hnm]
  rw [← hnl] at hll
  rw [← hnm] at hlm
  have HNL := Lib.hid hnl
  have HNM := Lib.hid hnm
  have HL := Lib.hid hl
  have HM := Lib.hid hm
  have HI := Lib.hid ih
  have HR := Lib.hid hR
  clear hnl hnm hl hm ih hR
  by_cases hnn : nl = nm
  case neg =>
    have hr : R = false := by
      rw [HR.out]
      cases h : sameL l m
      · rfl
      · exact absurd (by rw [HNL.out, HNM.out]; exact sameL_len h) hnn
    have hnb : ((nl : Int) != (nm : Int)) = true := by simp; omega
    have HS := Lib.hid hr
    clear hr hnn
    go_enter Tryd.func46, Tryd.ntmps46
    go_wp2
    go_ret
    exact ⟨by rw [HS.out]; rfl, Below.refl _ _⟩
  subst hnn
  go_enter Tryd.func46, Tryd.ntmps46
  go_wp2
  go_loopw [17] (fun i wr => ∃ j : Nat, i = .int .i64 j ∧ j ≤ nl ∧ j ≤ nl ∧ sameL (l.drop j) (m.drop j) = R ∧ Below w.heap.size w wr) (fun i _ => nl - (intOf i).toNat)
  case atStart => exact ⟨0, rfl, by omega, by omega, HR.out.symm, Below.refl _ _⟩
  case round =>
  clear HR
  obtain ⟨j, rfl, hj, hjm, hrel, hbw⟩ := hrel
  have HREL := Lib.hid hrel
  have HBW := Lib.hid hbw
  clear hrel hbw
  by_cases hlt : j < nl
  · skip
    have hj1 : j < l.length := by rw [← HNL.out]; exact hlt
    have hj2 : j < m.length := by rw [← HNM.out]; exact hlt
    have hdr := sameL_drop hj1 hj2
    have hok := HI.out _ (List.getElem_mem hj1)
    obtain ⟨g1, o1, cs1, hp1, hc1, hv1⟩ := (HL.out.ext HBW.out) j hj1
    obtain ⟨g2, o2, cs2, hp2, hc2, hv2⟩ := (HM.out.ext HBW.out) j hj2
    generalize l[j] = u1 at hv1 hdr hok
    obtain ⟨k1, b1, n1, s1, l1, f1⟩ := u1
    have HV1 := Lib.hid hv1
    obtain ⟨pl1, cl1, pf1, cf1, rfl, hrr1⟩ := hasVal_mk.1 hv1
    obtain ⟨d0, d1, d2, d3, d4, d5⟩ := hc1.six
    have hg1 := hc1.2.1
    clear hv1 hc1 hrr1
    subst hp1
    generalize m[j] = u2 at hv2 hdr
    obtain ⟨k2, b2, n2, s2, l2, f2⟩ := u2
    have HV2 := Lib.hid hv2
    obtain ⟨pl2, cl2, pf2, cf2, rfl, hrr2⟩ := hasVal_mk.1 hv2
    obtain ⟨e0, e1, e2, e3, e4, e5⟩ := hc2.six
    have hg2 := hc2.2.1
    clear hv2 hc2 hrr2
    subst hp2
    have HDR := Lib.hid hdr
    have HOK := Lib.hid hok
    obtain ⟨q, hq⟩ : ∃ q, q = sameV (.mk k1 b1 n1 s1 l1 f1) (.mk k2 b2 n2 s2 l2 f2) := ⟨_, rfl⟩
    have HQ := Lib.hid hq
    clear hdr hok hq
    have HBX : Hid (Below wr.heap.size wr ((wr.alloc (.cells #[.int .u8 (k1 : Int), .bool b1, .int .i64 n1, .string (bs s1), .slice pl1 l1.length cl1, .slice pf1 f1.length cf1] 26)).alloc (.cells #[.int .u8 (k2 : Int), .bool b2, .int .i64 n2, .string (bs s2), .slice pl2 l2.length cl2, .slice pf2 f2.length cf2] 26))) := Lib.hid (((Below.refl _ _).alloc (Nat.le_refl _) _).alloc (by simp) _)
    go_wp2_with fail
    go_at_call 22
    refine (HOK.out (.mk k2 b2 n2 s2 l2 f2) S S' _ _ _ (HV1.out.ext HBX.out) (HV2.out.ext HBX.out)).mono ?_
    rintro e' w1 ⟨he, hb⟩
    rw [← HQ.out] at he
    subst he
    have HB1 := Lib.hid (HBW.out.trans ((below_ext HBX.out hb).mono HBW.out.size))
    clear hb d0 d1 d2 d3 d4 d5 e0 e1 e2 e3 e4 e5
    cases q
    · have hr : R = false := by rw [← HREL.out, HDR.out, ← HQ.out]; rfl
      have HS := Lib.hid hr
      clear hr
      go_wp2
      go_ret
      exact ⟨by rw [HS.out]; rfl, HB1.out⟩
    · have hrel2 : sameL (l.drop (j + 1)) (m.drop (j + 1)) = R := by rw [← HREL.out, HDR.out, ← HQ.out]; rfl
      have HREL2 := Lib.hid hrel2
      clear hrel2
      go_wp2
      go_roundw
      case rel => exact ⟨j + 1, by go_num, by omega, by omega, HREL2.out, HB1.out⟩
      case measure => simp [intOf]; omega
  · have hr : R = true := by
      rw [← HREL.out, List.drop_eq_nil_of_le (show l.length ≤ j by rw [← HNL.out]; omega), List.drop_eq_nil_of_le (show m.length ≤ j by rw [← HNM.out]; omega)]
      rfl
    have HS := Lib.hid hr
    clear hr
    go_wp2
    go_ret
    exact ⟨by rw [HS.out]; rfl, HBW.out⟩
set_option maxHeartbeats 4000000 in
theorem eqfFf_any (l m : List (List UInt8 × DVal)) (ih : ∀ v ∈ l, SamOk v.2) (S S' : Nat → Prop) (pl pm : Option Addr) (cl cm : Nat) (w : World) (hll : l.length ≤ 1073741824) (hlm : m.length ≤ 1073741824) (hl : HasF S w pl l) (hm : HasF S' w pm m) :
    Calls Tryd.prog 47 #[.slice pl l.length cl, .slice pm m.length cm, .func (.func 48) #[] #[]] w fun e' w' => e' = .returned (.bool (sameF l m)) ∧ Below w.heap.size w w' := by
  obtain ⟨R, hR⟩ : ∃ R, R = sameF l m := ⟨_, rfl⟩
  rw [← hR]
  obtain ⟨nl, hnl⟩ : ∃ nl, nl = l.length := ⟨_, rfl⟩
  obtain ⟨nm, hnm⟩ : ∃ nm, nm = m.length := ⟨_, rfl⟩
  rw [← hnl, ← hnm]
  rw [← hnl] at hll
  rw [← hnm] at hlm
  have HNL := Lib.hid hnl
  have HNM := Lib.hid hnm
  have HL := Lib.hid hl
  have HM := Lib.hid hm
  have HI := Lib.hid ih
  have HR := Lib.hid hR
  clear hnl hnm hl hm ih hR
  by_cases hnn : nl = nm
  case neg =>
    have hr : R = false := by
      rw [HR.out]
      cases h : sameF l m
      · rfl
      · exact absurd (by rw [HNL.out, HNM.out]; exact sameF_len h) hnn
    have hnb : ((nl : Int) != (nm : Int)) = true := by simp; omega
    have HS := Lib.hid hr
    clear hr hnn
    go_enter Tryd.func47, Tryd.ntmps47
    go_wp2
    go_ret
    exact ⟨by rw [HS.out]; rfl, Below.refl _ _⟩
  subst hnn
  go_enter Tryd.func47, Tryd.ntmps47
  go_wp2
  go_loopw [17] (fun i wr => ∃ j : Nat, i = .int .i64 j ∧ j ≤ nl ∧ j ≤ nl ∧ sameF (l.drop j) (m.drop j) = R ∧ Below w.heap.size w wr) (fun i _ => nl - (intOf i).toNat)
  case atStart => exact ⟨0, rfl, by omega, by omega, HR.out.symm, Below.refl _ _⟩
  case round =>
  clear HR
  obtain ⟨j, rfl, hj, hjm, hrel, hbw⟩ := hrel
  have HREL := Lib.hid hrel
  have HBW := Lib.hid hbw
  clear hrel hbw
  by_cases hlt : j < nl
  · skip
    have hj1 : j < l.length := by rw [← HNL.out]; exact hlt
    have hj2 : j < m.length := by rw [← HNM.out]; exact hlt
    have hdr := sameF_dropP hj1 hj2
    have hok := HI.out _ (List.getElem_mem hj1)
    obtain ⟨g1, o1, cs1, hp1, ⟨hx1, hc1⟩, hv1⟩ := (HL.out.ext HBW.out) j hj1
    obtain ⟨g2, o2, cs2, hp2, ⟨hx2, hc2⟩, hv2⟩ := (HM.out.ext HBW.out) j hj2
    generalize l[j] = u1 at hv1 hc1 hx1 hdr hok
    obtain ⟨x1, v1⟩ := u1
    simp only [] at hv1 hc1 hx1 hdr hok
    obtain ⟨k1, b1, n1, s1, l1, f1⟩ := v1
    have HV1 := Lib.hid hv1
    obtain ⟨pl1, cl1, pf1, cf1, rfl, hrr1⟩ := hasVal_mk.1 hv1
    obtain ⟨d0, d1, d2, d3, d4, d5, d6⟩ := hc1.seven
    have hg1 := hc1.2.1
    clear hv1 hc1 hrr1
    subst hp1
    generalize m[j] = u2 at hv2 hc2 hx2 hdr
    obtain ⟨x2, v2⟩ := u2
    simp only [] at hv2 hc2 hx2 hdr
    obtain ⟨k2, b2, n2, s2, l2, f2⟩ := v2
    have HV2 := Lib.hid hv2
    obtain ⟨pl2, cl2, pf2, cf2, rfl, hrr2⟩ := hasVal_mk.1 hv2
    obtain ⟨e0, e1, e2, e3, e4, e5, e6⟩ := hc2.seven
    have hg2 := hc2.2.1
    clear hv2 hc2 hrr2
    subst hp2
    have HDR := Lib.hid hdr
    have HOK := Lib.hid hok
    obtain ⟨q, hq⟩ : ∃ q, q = sameP (x1, .mk k1 b1 n1 s1 l1 f1) (x2, .mk k2 b2 n2 s2 l2 f2) := ⟨_, rfl⟩
    have HQ := Lib.hid hq
    clear hdr hok hq
    have HBX : Hid (Below wr.heap.size wr ((wr.alloc (.cells #[.string (bs x1), .int .u8 (k1 : Int), .bool b1, .int .i64 n1, .string (bs s1), .slice pl1 l1.length cl1, .slice pf1 f1.length cf1] 38)).alloc (.cells #[.string (bs x2), .int .u8 (k2 : Int), .bool b2, .int .i64 n2, .string (bs s2), .slice pl2 l2.length cl2, .slice pf2 f2.length cf2] 38))) := Lib.hid (((Below.refl _ _).alloc (Nat.le_refl _) _).alloc (by simp) _)
    go_wp2_with fail
    go_at_call 48
    refine (same1_any (.mk k1 b1 n1 s1 l1 f1) HOK.out x1 x2 (.mk k2 b2 n2 s2 l2 f2) S S' _ _ _ (HV1.out.ext HBX.out) (HV2.out.ext HBX.out)).mono ?_
    rintro e' w1 ⟨he, hb⟩
    change e' = .returned (.bool (sameP (x1, .mk k1 b1 n1 s1 l1 f1) (x2, .mk k2 b2 n2 s2 l2 f2))) at he
    rw [← HQ.out] at he
    subst he
    have HB1 := Lib.hid (HBW.out.trans ((below_ext HBX.out hb).mono HBW.out.size))
    clear hb d0 d1 d2 d3 d4 d5 d6 e0 e1 e2 e3 e4 e5 e6
    cases q
    · have hr : R = false := by rw [← HREL.out, HDR.out, ← HQ.out]; rfl
      have HS := Lib.hid hr
      clear hr
      go_wp2
      go_ret
      exact ⟨by rw [HS.out]; rfl, HB1.out⟩
    · have hrel2 : sameF (l.drop (j + 1)) (m.drop (j + 1)) = R := by rw [← HREL.out, HDR.out, ← HQ.out]; rfl
      have HREL2 := Lib.hid hrel2
      clear hrel2
      go_wp2
      go_roundw
      case rel => exact ⟨j + 1, by go_num, by omega, by omega, HREL2.out, HB1.out⟩
      case measure => simp [intOf]; omega
  · have hr : R = true := by
      rw [← HREL.out, List.drop_eq_nil_of_le (show l.length ≤ j by rw [← HNL.out]; omega), List.drop_eq_nil_of_le (show m.length ≤ j by rw [← HNM.out]; omega)]
      rfl
    have HS := Lib.hid hr
    clear hr
    go_wp2
    go_ret
    exact ⟨by rw [HS.out]; rfl, HBW.out⟩
theorem sameV_flat (k1 : Nat) (b1 : Bool) (n1 : Int) (s1 : List UInt8) (l1 : List DVal) (f1 : List (List UInt8 × DVal)) (k2 : Nat) (b2 : Bool) (n2 : Int) (s2 : List UInt8) (l2 : List DVal) (f2 : List (List UInt8 × DVal)) :
    sameV (.mk k1 b1 n1 s1 l1 f1) (.mk k2 b2 n2 s2 l2 f2) = (flatB (k1 : Int) b1 n1 s1 l1.length f1.length (k2 : Int) b2 n2 s2 l2.length f2.length && sameL l1 l2 && sameF f1 f2) := by
  rw [sameV]
  cases hL : sameL l1 l2
  · simp
  cases hF : sameF f1 f2
  · simp
  have h1 := sameL_len hL
  have h2 := sameF_len hF
  simp only [Bool.and_true, flatB, h1, h2]
  rw [Bool.eq_iff_iff]
  simp only [Bool.and_eq_true, beq_iff_eq, decide_eq_true_eq]
  constructor
  · rintro ⟨⟨⟨rfl, rfl⟩, rfl⟩, rfl⟩
    simp
  · rintro ⟨h1, h2, h3, h4, _⟩
    exact ⟨⟨⟨by omega, h2⟩, h3⟩, h4⟩
set_option maxHeartbeats 4000000 in
theorem sam_step (k1 : Nat) (b1 : Bool) (n1 : Int) (s1 : List UInt8) (l1 : List DVal) (f1 : List (List UInt8 × DVal)) (ihL : ∀ v ∈ l1, SamOk v) (ihF : ∀ v ∈ f1, SamOk v.2) : SamOk (.mk k1 b1 n1 s1 l1 f1) := by
  intro v S S' cs cs' w hv hv'
  obtain ⟨k2, b2, n2, s2, l2, f2⟩ := v
  obtain ⟨pl1, cl1, pf1, cf1, rfl, hbd, hL, hF⟩ := hasVal_mk.1 hv
  obtain ⟨pl2, cl2, pf2, cf2, rfl, hbd', hL', hF'⟩ := hasVal_mk.1 hv'
  clear hv hv'
  rw [sameV_flat]
  obtain ⟨E, hE⟩ : ∃ E, E = flatB (k1 : Int) b1 n1 s1 l1.length f1.length (k2 : Int) b2 n2 s2 l2.length f2.length := ⟨_, rfl⟩
  obtain ⟨P, hP⟩ : ∃ P, P = sameL l1 l2 := ⟨_, rfl⟩
  obtain ⟨Q, hQ⟩ : ∃ Q, Q = sameF f1 f2 := ⟨_, rfl⟩
  rw [← hE, ← hP, ← hQ]
  have HE := Lib.hid hE
  have HP := Lib.hid hP
  have HQ := Lib.hid hQ
  have HHL := Lib.hid (eqfFl_any l1 l2 ihL S S' pl1 pl2 cl1 cl2)
  have HHF := Lib.hid (eqfFf_any f1 f2 ihF S S' pf1 pf2 cf1 cf2)
  have HBD := Lib.hid hbd
  have HBD' := Lib.hid hbd'
  have HL := Lib.hid hL
  have HL' := Lib.hid hL'
  have HF := Lib.hid hF
  have HF' := Lib.hid hF'
  show Calls Tryd.prog 22 #[.agg #[.int .u8 (k1 : Int), .bool b1, .int .i64 n1, .string (bs s1), .slice pl1 l1.length cl1, .slice pf1 f1.length cf1], .agg #[.int .u8 (k2 : Int), .bool b2, .int .i64 n2, .string (bs s2), .slice pl2 l2.length cl2, .slice pf2 f2.length cf2]] w _
  clear hbd hbd' hL hL' hF hF' ihL ihF hE hP hQ
  go_enter Tryd.func22, Tryd.ntmps22
  go_upto_region 1 with (fail)
  generalize hW0 : World.alloc (World.alloc w _) _ = W0
  have hd1 : IsBlk W0 w.heap.size #[.int .u8 (k1 : Int), .bool b1, .int .i64 n1, .string (bs s1), .slice pl1 l1.length cl1, .slice pf1 f1.length cf1] 26 := by rw [← hW0]; exact (IsBlk.new _ _ _).alloc _
  have hd2 : IsBlk W0 (w.heap.size + 1) #[.int .u8 (k2 : Int), .bool b2, .int .i64 n2, .string (bs s2), .slice pl2 l2.length cl2, .slice pf2 f2.length cf2] 26 := by rw [← hW0]; exact IsBlk.new_at (by simp)
  have hb0 : Below w.heap.size w W0 := by rw [← hW0]; exact ((Below.refl _ _).alloc (Nat.le_refl _) _).alloc (by simp) _
  clear hW0
  have HB0 := Lib.hid hb0
  have HD1 := Lib.hid hd1
  have HD2 := Lib.hid hd2
  have d0 := hd1.cell (i := 0) rfl
  have d1 := hd1.cell (i := 1) rfl
  have d2 := hd1.cell (i := 2) rfl
  have d3 := hd1.cell (i := 3) rfl
  have d4 := hd1.cell (i := 4) rfl
  have d5 := hd1.cell (i := 5) rfl
  have e0 := hd2.cell (i := 0) rfl
  have e1 := hd2.cell (i := 1) rfl
  have e2 := hd2.cell (i := 2) rfl
  have e3 := hd2.cell (i := 3) rfl
  have e4 := hd2.cell (i := 4) rfl
  have e5 := hd2.cell (i := 5) rfl
  clear hd1 hd2 hb0
  go_wp2_with fail
  go_at_call 45
  refine (flat_any _ _ _ _ _ _ _ _ _ _ _ _ _ _ _ _ _ _ _ _ _).mono ?_
  rintro e' w1 ⟨he, hb⟩
  rw [← HE.out] at he
  subst he
  have HB1 := Lib.hid (below_ext HB0.out hb)
  have hd1 := HD1.out.ext hb
  have hd2 := HD2.out.ext hb
  clear hb d0 d1 d2 d3 d4 d5 e0 e1 e2 e3 e4 e5 HD1 HD2
  have d4 := hd1.cell (i := 4) rfl
  have e4 := hd2.cell (i := 4) rfl
  have HD1 := Lib.hid hd1
  have HD2 := Lib.hid hd2
  clear hd1 hd2
  cases E
  · go_wp2
    go_ret
    exact ⟨rfl, HB1.out⟩
  go_wp2_with fail
  go_at_call 46
  refine (HHL.out _ (HBD.out.2.2.2.2.1) (HBD'.out.2.2.2.2.1) (HL.out.ext HB1.out) (HL'.out.ext HB1.out)).mono ?_
  rintro e' w2 ⟨he, hb⟩
  rw [← HP.out] at he
  subst he
  have HB2 := Lib.hid (below_ext HB1.out hb)
  have d5 := (HD1.out.ext hb).cell (i := 5) rfl
  have e5 := (HD2.out.ext hb).cell (i := 5) rfl
  clear hb d4 e4
  cases P
  · go_wp2
    go_ret
    exact ⟨rfl, HB2.out⟩
  go_wp2_with fail
  go_at_call 47
  refine (HHF.out _ (HBD.out.2.2.2.2.2.1) (HBD'.out.2.2.2.2.2.1) (HF.out.ext HB2.out) (HF'.out.ext HB2.out)).mono ?_
  rintro e' w3 ⟨he, hb⟩
  rw [← HQ.out] at he
  subst he
  have HB3 := Lib.hid (below_ext HB2.out hb)
  clear hb d5 e5
  go_wp2
  go_ret
  exact ⟨rfl, HB3.out⟩
theorem sam_all : ∀ (m : Nat) (v : DVal), SizeOf.sizeOf v < m → SamOk v := by
  intro m
  induction m with
  | zero => intro v h; omega
  | succ m ih =>
    intro v h
    obtain ⟨k, b, n, s, l, f⟩ := v
    exact sam_step k b n s l f (fun v hv => ih v (by have := DVal.size_l (k := k) (b := b) (n := n) (s := s) (f := f) v hv; omega)) (fun p hp => ih p.2 (by have := DVal.size_f (k := k) (b := b) (n := n) (s := s) (l := l) p hp; omega))
theorem sam_any (v : DVal) : SamOk v := sam_all _ v (Nat.lt_succ_self _)
end Go.Proofs.YthcojmpigdojoaaDoor
