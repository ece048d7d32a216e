/- value.Count. Condition: the value lies in memory. -/
import Derived.Test.YthcojmpigdojoaaDoorVal
import Derived.Test.YthcojmpigdojoaaDoorStr
import Derived.WalkKit
import Derived.WalkSpells
import Derived.WalkLawsBesides
import Derived.Outline
import Derived.BigQuiet
import Derived.BigRegion
import Derived.Deep.DeepCutAuto
set_option linter.unusedVariables false
set_option linter.unusedSimpArgs false
namespace Go.Proofs.YthcojmpigdojoaaDoor
open Go Go.RowKit Go.BigFrame
set_option maxRecDepth 100000

theorem countL_drop {l : List DVal} {i : Nat} (h : i < l.length) : countL (l.drop i) = countV l[i] + countL (l.drop (i + 1)) := by
  rw [List.drop_eq_getElem_cons h, countL]
theorem countF_drop {l : List (List UInt8 × DVal)} {i : Nat} (h : i < l.length) : countF (l.drop i) = countV l[i].2 + countF (l.drop (i + 1)) := by
  rw [List.drop_eq_getElem_cons h]
  generalize l[i] = p
  obtain ⟨x, v⟩ := p
  rw [countF]
def CountOk (a : DVal) : Prop := ∀ (S : Nat → Prop) (cs : List Value) (w : World), HasVal S w a cs → countV a ≤ 1099511627776 →
  Calls Tryd.prog 12 #[.agg cs.toArray] w fun e' w' => e' = .returned (.int .i64 (countV a : Int)) ∧ Below w.heap.size w w'
set_option maxHeartbeats 4000000 in
theorem count_step (k : Nat) (b : Bool) (n : Int) (s : List UInt8) (l : List DVal) (f : List (List UInt8 × DVal)) (ihL : ∀ v ∈ l, CountOk v) (ihF : ∀ p ∈ f, CountOk p.2) : CountOk (.mk k b n s l f) := by
  intro S cs w hv hbig
  obtain ⟨pl, cl, pf, cf, rfl, hbd, hL, hF⟩ := hasVal_mk.1 hv
  clear hv
  have hll := hbd.2.2.2.2.1
  have hlf := hbd.2.2.2.2.2.1
  clear hbd
  obtain ⟨R, hR⟩ : ∃ R, R = countV (.mk k b n s l f) := ⟨_, rfl⟩
  rw [← hR] at hbig ⊢
  rw [countV] at hR
  show Calls Tryd.prog 12 #[.agg #[.int .u8 (k : Int), .bool b, .int .i64 n, .string (bs s), .slice pl l.length cl, .slice pf f.length cf]] w _
  obtain ⟨nl, hnl⟩ : ∃ nl, nl = l.length := ⟨_, rfl⟩
  obtain ⟨nf, hnf⟩ : ∃ nf, nf = f.length := ⟨_, rfl⟩
  rw [← hnl, ← hnf]
  rw [← hnl] at hll
  rw [← hnf] at hlf
  have HNL := Lib.hid hnl
  have HNF := Lib.hid hnf
  have HL := Lib.hid hL
  have HF := Lib.hid hF
  have HIL := Lib.hid ihL
  have HIF := Lib.hid ihF
  have HR := Lib.hid hR
  clear hnl hnf hL hF ihL ihF hR
  go_enter Tryd.func12, Tryd.ntmps12
  go_upto_region 2 with (fail)
  generalize hW0 : World.alloc w _ = W0
  have hd1 : IsBlk W0 w.heap.size #[.int .u8 (k : Int), .bool b, .int .i64 n, .string (bs s), .slice pl nl cl, .slice pf nf cf] 26 := by rw [← hW0]; exact IsBlk.new _ _ _
  have hb0 : Below w.heap.size w W0 := by rw [← hW0]; exact (Below.refl _ _).alloc (Nat.le_refl _) _
  have hlt1 : w.heap.size < W0.heap.size := hd1.lt
  clear hW0
  have c14 : W0.cell? ⟨w.heap.size, 4, none⟩ = some (.slice pl nl cl) := hd1.cell rfl
  have HD1 := Lib.hid hd1
  have HB0 := Lib.hid hb0
  clear hd1 hb0
  go_wp2
  clear c14
  go_loopw [11, 3] (fun i v wr => ∃ j z : Nat, i = .int .i64 j ∧ v = .int .i64 z ∧ j ≤ nl ∧ z + countL (l.drop j) + countF f = R ∧ Below W0.heap.size W0 wr) (fun i _ _ => nl - (intOf i).toNat)
  case atStart => exact ⟨0, 1, rfl, rfl, by omega, HR.out.symm, Below.refl _ _⟩
  case round =>
  obtain ⟨j, z, rfl, rfl, hj, hrel, hbw⟩ := hrel
  have hwr := hbw.size
  have HBW := Lib.hid hbw
  clear hbw
  by_cases hlt : j < nl
  · have hj1 : j < l.length := by rw [← HNL.out]; exact hlt
    have hbwr := Below.trans HB0.out (HBW.out.mono (by omega))
    obtain ⟨g1, o1, cs1, hp1, hc1, hv1⟩ := (HL.out.ext hbwr) j hj1
    have hok := HIL.out _ (List.getElem_mem hj1)
    have hdr := countL_drop hj1
    generalize l[j] = u1 at hv1 hok hdr
    obtain ⟨k1, b1, n1, s1, l1, f1⟩ := u1
    obtain ⟨q, hq⟩ : ∃ q, q = countV (.mk k1 b1 n1 s1 l1 f1) := ⟨_, rfl⟩
    rw [← hq] at hdr
    have hzq : z + q ≤ R := by omega
    have hrel2 : z + q + countL (l.drop (j + 1)) + countF f = R := by omega
    have HQ := Lib.hid hq
    have HOK := Lib.hid hok
    have HREL2 := Lib.hid hrel2
    have HV1 := Lib.hid hv1
    obtain ⟨pl1, cl1, pf1, cf1, rfl, _, _, _⟩ := hasVal_mk.1 hv1
    obtain ⟨d0, d1, d2, d3, d4, d5⟩ := hc1.six
    have hg1 := hc1.2.1
    clear hv1 hok hdr hc1 hbwr hrel hq hrel2
    subst hp1
    obtain ⟨m1, hm1⟩ : ∃ m1, m1 = l1.length := ⟨_, rfl⟩
    obtain ⟨m2, hm2⟩ : ∃ m2, m2 = f1.length := ⟨_, rfl⟩
    rw [← hm1, ← hm2] at HV1
    rw [← hm1] at d4
    rw [← hm2] at d5
    clear hm1 hm2
    have hbx : Below wr.heap.size wr (wr.alloc (.cells #[.int .u8 (k1 : Int), .bool b1, .int .i64 n1, .string (bs s1), .slice pl1 m1 cl1, .slice pf1 m2 cf1] 26)) := (Below.refl _ _).alloc (Nat.le_refl _) _
    have HBX := Lib.hid hbx
    clear hbx
    go_wp2_with fail
    go_at_call 12
    refine (HOK.out S _ _ (HV1.out.ext HBX.out) (by rw [← HQ.out]; omega)).mono ?_
    rintro e' w1 ⟨he, hb⟩
    rw [← HQ.out] at he
    subst he
    have HB1 := Lib.hid (below_ext HBW.out (below_ext HBX.out hb))
    clear hb d0 d1 d2 d3 d4 d5
    go_wp2
    go_roundw
    case rel => exact ⟨j + 1, z + q, by go_num, by go_num, by omega, HREL2.out, HB1.out⟩
    case measure => simp [intOf]; omega
  · have hrel2 : z + countF f = R := by
      rw [List.drop_eq_nil_of_le (by rw [← HNL.out]; omega), countL] at hrel
      omega
    have HREL2 := Lib.hid hrel2
    clear hrel hrel2
    have c15 : wr.cell? ⟨w.heap.size, 5, none⟩ = some (.slice pf nf cf) := (HD1.out.below HBW.out hlt1).cell rfl
    go_upto_region 8 with (fail)
    clear c15
    go_wp2
    go_loopw [23, 3] (fun i v wr => ∃ j z : Nat, i = .int .i64 j ∧ v = .int .i64 z ∧ j ≤ nf ∧ z + countF (f.drop j) = R ∧ Below W0.heap.size W0 wr) (fun i _ _ => nf - (intOf i).toNat)
    case atStart => exact ⟨0, z, rfl, rfl, by omega, HREL2.out, HBW.out⟩
    case round =>
    clear HBW HREL2
    obtain ⟨j2, z2, rfl, rfl, hj2, hrel, hbw⟩ := hrel
    have hwr2 := hbw.size
    have HBW := Lib.hid hbw
    clear hbw
    by_cases hlt' : j2 < nf
    · have hj1 : j2 < f.length := by rw [← HNF.out]; exact hlt'
      have hbwr := Below.trans HB0.out (HBW.out.mono (by omega))
      obtain ⟨g1, o1, cs1, hp1, ⟨_, hc1⟩, hv1⟩ := (HF.out.ext hbwr) j2 hj1
      have hok := HIF.out _ (List.getElem_mem hj1)
      have hdr := countF_drop hj1
      generalize f[j2] = p1 at hv1 hok hdr hc1
      obtain ⟨x1, u1⟩ := p1
      simp only [] at hv1 hok hdr hc1
      obtain ⟨k1, b1, n1, s1, l1, f1⟩ := u1
      obtain ⟨q, hq⟩ : ∃ q, q = countV (.mk k1 b1 n1 s1 l1 f1) := ⟨_, rfl⟩
      rw [← hq] at hdr
      have hzq : z2 + q ≤ R := by omega
      have hrel2 : z2 + q + countF (f.drop (j2 + 1)) = R := by omega
      have HQ := Lib.hid hq
      have HOK := Lib.hid hok
      have HREL2 := Lib.hid hrel2
      have HV1 := Lib.hid hv1
      obtain ⟨pl1, cl1, pf1, cf1, rfl, _, _, _⟩ := hasVal_mk.1 hv1
      obtain ⟨d0, d1, d2, d3, d4, d5, d6⟩ := hc1.seven
      have hg1 := hc1.2.1
      clear hv1 hok hdr hc1 hbwr hrel hq hrel2
      subst hp1
      obtain ⟨m1, hm1⟩ : ∃ m1, m1 = l1.length := ⟨_, rfl⟩
      obtain ⟨m2, hm2⟩ : ∃ m2, m2 = f1.length := ⟨_, rfl⟩
      rw [← hm1, ← hm2] at HV1
      rw [← hm1] at d5
      rw [← hm2] at d6
      clear hm1 hm2
      have hbx : Below wr.heap.size wr (wr.alloc (.cells #[.string (bs x1), .int .u8 (k1 : Int), .bool b1, .int .i64 n1, .string (bs s1), .slice pl1 m1 cl1, .slice pf1 m2 cf1] 38)) := (Below.refl _ _).alloc (Nat.le_refl _) _
      have HBX := Lib.hid hbx
      clear hbx
      go_wp2_with fail
      go_at_call 12
      refine (HOK.out S _ _ (HV1.out.ext HBX.out) (by rw [← HQ.out]; omega)).mono ?_
      rintro e' w1 ⟨he, hb⟩
      rw [← HQ.out] at he
      subst he
      have HB1 := Lib.hid (below_ext HBW.out (below_ext HBX.out hb))
      clear hb d0 d1 d2 d3 d4 d5 d6
      go_wp2
      go_roundw
      case rel => exact ⟨j2 + 1, z2 + q, by go_num, by go_num, by omega, HREL2.out, HB1.out⟩
      case measure => simp [intOf]; omega
    · have hrel2 : z2 = R := by
        rw [List.drop_eq_nil_of_le (by rw [← HNF.out]; omega), countF] at hrel
        omega
      clear hrel
      subst hrel2
      go_wp2
      go_ret
      exact ⟨rfl, Below.trans HB0.out (HBW.out.mono (by omega))⟩
theorem count_all : ∀ (m : Nat) (v : DVal), SizeOf.sizeOf v < m → CountOk v := by
  intro m
  induction m with
  | zero => intro v h; omega
  | succ m ih =>
    intro v h
    obtain ⟨k, b, n, s, l, f⟩ := v
    exact count_step k b n s l f (fun v hv => ih v (by have := DVal.size_l (k := k) (b := b) (n := n) (s := s) (f := f) v hv; omega)) (fun p hp => ih p.2 (by have := DVal.size_f (k := k) (b := b) (n := n) (s := s) (l := l) p hp; omega))
theorem count_any (v : DVal) : CountOk v := count_all _ v (Nat.lt_succ_self _)
end Go.Proofs.YthcojmpigdojoaaDoor
