/- ValueOrder: the order of values is an order. Conditions: the three values lie in memory; the tables and the two errors read as the texts lay them. -/
import Derived.Test.YthcojmpigdojoaaDoorVLives
import Derived.Test.YthcojmpigdojoaaDoorOrd
import Derived.Test.YthcojmpigdojoaaDoorSameV
set_option linter.unusedVariables false
set_option linter.unusedSimpArgs false
namespace Go.Proofs.YthcojmpigdojoaaDoor
open Go Go.RowKit Go.BigFrame
set_option maxRecDepth 100000

theorem order_cases {X Y Z NX : Int} (h : T3 X Y Z) (h1 : -1 ≤ X ∧ X ≤ 1) (h2 : -1 ≤ Y ∧ Y ≤ 1) (h3 : -1 ≤ Z ∧ Z ≤ 1) (h4 : NX = -X) :
    (X = 1 ∧ NX = -1) ∨ (X = -1 ∧ NX = 1 ∧ Y = 1) ∨ (X = 0 ∧ NX = 0 ∧ Y = 1) ∨ (X = -1 ∧ NX = 1 ∧ Y = -1 ∧ Z = -1) ∨ (X = -1 ∧ NX = 1 ∧ Y = 0 ∧ Z = -1) ∨ (X = 0 ∧ NX = 0 ∧ Y = -1 ∧ Z = -1) ∨ (X = 0 ∧ NX = 0 ∧ Y = 0 ∧ Z = -1) ∨ (X = 0 ∧ NX = 0 ∧ Y = 0 ∧ Z = 0) := by
  subst h4
  have hX : X = 1 ∨ X = -1 ∨ X = 0 := by omega
  have hY : Y = 1 ∨ Y = -1 ∨ Y = 0 := by omega
  have hZ : Z = 1 ∨ Z = -1 ∨ Z = 0 := by omega
  unfold T3 at h
  rcases hX with rfl | rfl | rfl <;> rcases hY with rfl | rfl | rfl <;> rcases hZ with rfl | rfl | rfl <;> first | (exfalso; revert h; decide) | decide
set_option maxHeartbeats 16000000 in
theorem order_any (A B C : DVal) (SA SB SC : Nat → Prop) (ca cb cc : List Value) (w : World) (hA : HasVal SA w A ca) (hB : HasVal SB w B cb) (hC : HasVal SC w C cc) (hN : NumT w) (hU : U8T w) :
    Calls Tryd.prog 6 #[.agg ca.toArray, .agg cb.toArray, .agg cc.toArray] w fun e' w' => e' = .returned (.bool true) ∧ Below w.heap.size w w' := by
  have hne := cmpV_neg A B
  have ht3 := cmpV_t3 A B C
  have hs1 := cmpV_small A B
  have hs2 := cmpV_small B C
  have hs3 := cmpV_small A C
  have hrf := cmpV_refl A
  have hqq : checkV 0 A = 0 → checkV 0 B = 0 → sameV A B = decide (cmpV A B = 0) := fun h1 h2 => by
    by_cases h : A = B
    · subst h
      rw [hrf, (sameV_iff A A).2 rfl]; rfl
    · have h3 : cmpV A B ≠ 0 := fun h4 => h (cmpV_eq A B 0 0 h1 h2 h4)
      have h4 : ¬ sameV A B = true := fun h4 => h ((sameV_iff A B).1 h4)
      rw [decide_eq_false h3]
      simpa using h4
  have HLIV := Lib.hid (fun w' (hb : Below w.heap.size w w') => vlives_any w' (hN.ext hb) (U8T_ext hU hb))
  have HAB := Lib.hid (fun w' (hb : Below w.heap.size w w') => cmp_any A B _ _ _ _ w' (hA.ext hb) (hB.ext hb))
  have HBC := Lib.hid (fun w' (hb : Below w.heap.size w w') => cmp_any B C _ _ _ _ w' (hB.ext hb) (hC.ext hb))
  have HAC := Lib.hid (fun w' (hb : Below w.heap.size w w') => cmp_any A C _ _ _ _ w' (hA.ext hb) (hC.ext hb))
  have HBA := Lib.hid (fun w' (hb : Below w.heap.size w w') => cmp_any B A _ _ _ _ w' (hB.ext hb) (hA.ext hb))
  have HAA := Lib.hid (fun w' (hb : Below w.heap.size w w') => cmp_any A A _ _ _ _ w' (hA.ext hb) (hA.ext hb))
  have HCA := Lib.hid (fun w' (hb : Below w.heap.size w w') => check_any A _ _ w' (hA.ext hb) (U8T_ext hU hb))
  have HCB := Lib.hid (fun w' (hb : Below w.heap.size w w') => check_any B _ _ w' (hB.ext hb) (U8T_ext hU hb))
  have HSM := Lib.hid (fun w' (hb : Below w.heap.size w w') => sam_any A B _ _ _ _ w' (hA.ext hb) (hB.ext hb))
  rw [hne] at HBA
  rw [hrf] at HAA
  generalize cmpV A B = X at *
  generalize cmpV B C = Y at *
  generalize cmpV A C = Z at *
  generalize checkV 0 A = dA at *
  generalize checkV 0 B = dB at *
  generalize sameV A B = q at *
  obtain ⟨NX, hNX⟩ : ∃ n, n = -X := ⟨_, rfl⟩
  rw [← hNX] at HBA
  have HNX := Lib.hid hNX
  have HT := Lib.hid ht3
  have HS1 := Lib.hid hs1
  have HS2 := Lib.hid hs2
  have HS3 := Lib.hid hs3
  have HQ := Lib.hid hqq
  obtain ⟨k1, b1, n1, s1, l1, f1⟩ := A
  obtain ⟨k2, b2, n2, s2, l2, f2⟩ := B
  obtain ⟨k3, b3, n3, s3, l3, f3⟩ := C
  obtain ⟨pl1, cl1, pf1, cf1, rfl, _⟩ := hasVal_mk.1 hA
  obtain ⟨pl2, cl2, pf2, cf2, rfl, _⟩ := hasVal_mk.1 hB
  obtain ⟨pl3, cl3, pf3, cf3, rfl, _⟩ := hasVal_mk.1 hC
  clear hA hB hC hN hU hne ht3 hs1 hs2 hs3 hrf hqq hNX
  show Calls Tryd.prog 6 #[.agg #[.int .u8 (k1 : Int), .bool b1, .int .i64 n1, .string (bs s1), .slice pl1 l1.length cl1, .slice pf1 f1.length cf1], .agg #[.int .u8 (k2 : Int), .bool b2, .int .i64 n2, .string (bs s2), .slice pl2 l2.length cl2, .slice pf2 f2.length cf2], .agg #[.int .u8 (k3 : Int), .bool b3, .int .i64 n3, .string (bs s3), .slice pl3 l3.length cl3, .slice pf3 f3.length cf3]] w _
  go_enter Tryd.func6, Tryd.ntmps6
  go_upto_region 1 with (fail)
  generalize hW0 : World.alloc (World.alloc (World.alloc w _) _) _ = W0
  have hd1 : IsBlk W0 w.heap.size #[.int .u8 (k1 : Int), .bool b1, .int .i64 n1, .string (bs s1), .slice pl1 l1.length cl1, .slice pf1 f1.length cf1] 26 := by rw [← hW0]; exact ((IsBlk.new _ _ _).alloc _).alloc _
  have hd2 : IsBlk W0 (w.heap.size + 1) #[.int .u8 (k2 : Int), .bool b2, .int .i64 n2, .string (bs s2), .slice pl2 l2.length cl2, .slice pf2 f2.length cf2] 26 := by rw [← hW0]; exact (IsBlk.new_at (by simp)).alloc _
  have hd3 : IsBlk W0 (w.heap.size + 1 + 1) #[.int .u8 (k3 : Int), .bool b3, .int .i64 n3, .string (bs s3), .slice pl3 l3.length cl3, .slice pf3 f3.length cf3] 26 := by rw [← hW0]; exact IsBlk.new_at (by simp)
  have hb0 : Below w.heap.size w W0 := by rw [← hW0]; exact (((Below.refl _ _).alloc (Nat.le_refl _) _).alloc (by simp) _).alloc (by simp; omega) _
  have hz0 := hb0.size
  have HD1 := Lib.hid hd1
  have HD2 := Lib.hid hd2
  have HD3 := Lib.hid hd3
  have HB0 := Lib.hid hb0
  clear hW0 hd1 hd2 hd3 hb0
  go_wp2_with fail
  go_at_call 11
  refine (HLIV.out W0 HB0.out).mono ?_
  rintro e' w1 ⟨rfl, hb⟩
  have HB1 := Lib.hid (HB0.out.trans (hb.mono hz0))
  have hz1 := HB1.out.size
  have hd1 := HD1.out.ext hb
  have hd2 := HD2.out.ext hb
  have hd3 := HD3.out.ext hb
  have HE1 := Lib.hid hd1
  have HE2 := Lib.hid hd2
  have HE3 := Lib.hid hd3
  have x0 := hd1.cell (i := 0) rfl
  have x1 := hd1.cell (i := 1) rfl
  have x2 := hd1.cell (i := 2) rfl
  have x3 := hd1.cell (i := 3) rfl
  have x4 := hd1.cell (i := 4) rfl
  have x5 := hd1.cell (i := 5) rfl
  have y0 := hd2.cell (i := 0) rfl
  have y1 := hd2.cell (i := 1) rfl
  have y2 := hd2.cell (i := 2) rfl
  have y3 := hd2.cell (i := 3) rfl
  have y4 := hd2.cell (i := 4) rfl
  have y5 := hd2.cell (i := 5) rfl
  have u0 := hd3.cell (i := 0) rfl
  have u1 := hd3.cell (i := 1) rfl
  have u2 := hd3.cell (i := 2) rfl
  have u3 := hd3.cell (i := 3) rfl
  have u4 := hd3.cell (i := 4) rfl
  have u5 := hd3.cell (i := 5) rfl
  have hl1 := hd1.lt
  have hl2 := hd2.lt
  have hl3 := hd3.lt
  clear hb hd1 hd2 hd3 HLIV
  go_upto_region 3 with (fail)
  refine mixB_start [] (Cls w1) (by kernel_rfl) (Cls.of ((Below.refl _ _).drew)) (fun hCw => ?_)
  refine mixB_flt (by kernel_rfl) [0, 1, 3, 4, 6, 7] 6 _ _ hCw (by kernel_rfl) ?_
  simp only [opsAt, List.map_cons, List.map_nil, List.toList_toArray, List.getD_cons_succ, List.getD_cons_zero]
  unfold Cls
  repeat (go_big_quiet_step (fail))
  refine wpQuiet_nil ?_
  (try rw [← Cls_def])
  refine mixB_ch (i := 2) (fuel := 5) (by kernel_rfl) (by kernel_rfl) ?_
  simp only [opsAt, List.map_cons, List.map_nil, List.toList_toArray, List.getD_cons_succ, List.getD_cons_zero]
  go_wp2_with (go_at_call 20; refine (HAB.out _ (HB1.out.trans (hCw.below.mono hz1))).mono ?_; rintro e' w2 ⟨rfl, hb2⟩)
  refine ThenB.mk (hCw.trans hb2) (fun hCw => ?_)
  refine mixB_ch (i := 5) (fuel := 4) (by kernel_rfl) (by kernel_rfl) ?_
  simp only [opsAt, List.map_cons, List.map_nil, List.toList_toArray, List.getD_cons_succ, List.getD_cons_zero]
  go_wp2_with (go_at_call 20; refine (HBC.out _ (HB1.out.trans (hCw.below.mono hz1))).mono ?_; rintro e' w2 ⟨rfl, hb2⟩)
  refine ThenB.mk (hCw.trans hb2) (fun hCw => ?_)
  refine mixB_ch (i := 8) (fuel := 3) (by kernel_rfl) (by kernel_rfl) ?_
  simp only [opsAt, List.map_cons, List.map_nil, List.toList_toArray, List.getD_cons_succ, List.getD_cons_zero]
  go_wp2_with (go_at_call 20; refine (HAC.out _ (HB1.out.trans (hCw.below.mono hz1))).mono ?_; rintro e' w2 ⟨rfl, hb2⟩)
  refine ThenB.mk (hCw.trans hb2) (fun hCw => ?_)
  refine mixB_flt (by kernel_rfl) [9, 10, 11] 0 _ _ hCw (by kernel_rfl) ?_
  simp only [opsAt, List.map_cons, List.map_nil, List.toList_toArray, List.getD_cons_succ, List.getD_cons_zero]
  unfold Cls
  repeat (go_big_quiet_step (fail))
  refine wpQuiet_nil ?_
  (try rw [← Cls_def])
  refine mixB_end [] (by kernel_rfl) ?_
  refine wpList_nil ?_
  refine Calm.normal ?_
  have HBW := Lib.hid (HB1.out.trans (hCw.below.mono hz1))
  have hz2 := HBW.out.size
  have hd1 := HE1.out.ext hCw.below
  have hd2 := HE2.out.ext hCw.below
  have HF1 := Lib.hid hd1
  have HF2 := Lib.hid hd2
  clear hCw hb2 x0 x1 x2 x3 x4 x5 y0 y1 y2 y3 y4 y5 u0 u1 u2 u3 u4 u5 hl1 hl2 hl3
  have x0 := hd1.cell (i := 0) rfl
  have x1 := hd1.cell (i := 1) rfl
  have x2 := hd1.cell (i := 2) rfl
  have x3 := hd1.cell (i := 3) rfl
  have x4 := hd1.cell (i := 4) rfl
  have x5 := hd1.cell (i := 5) rfl
  have y0 := hd2.cell (i := 0) rfl
  have y1 := hd2.cell (i := 1) rfl
  have y2 := hd2.cell (i := 2) rfl
  have y3 := hd2.cell (i := 3) rfl
  have y4 := hd2.cell (i := 4) rfl
  have y5 := hd2.cell (i := 5) rfl
  have hl1 := hd1.lt
  have hl2 := hd2.lt
  clear hd1 hd2
  have hcase := order_cases HT.out HS1.out HS2.out HS3.out HNX.out
  clear HT HS1 HS2 HS3 HNX HAB HBC HAC
  rcases hcase with ⟨rfl, rfl⟩ | ⟨rfl, rfl, rfl⟩ | ⟨rfl, rfl, rfl⟩ | ⟨rfl, rfl, rfl, rfl⟩ | ⟨rfl, rfl, rfl, rfl⟩ | ⟨rfl, rfl, rfl, rfl⟩ | ⟨rfl, rfl, rfl, rfl⟩ | ⟨rfl, rfl, rfl, rfl⟩
  all_goals
    go_wp2_with fail
    go_at_call 20
    refine (HBA.out _ HBW.out).mono ?_
    rintro e' w3 ⟨rfl, hb⟩
    have HBV := Lib.hid (HBW.out.trans (hb.mono hz2))
    have hz3 := HBV.out.size
    have hd1 := HF1.out.ext hb
    have hd2 := HF2.out.ext hb
    have HG1 := Lib.hid hd1
    have HG2 := Lib.hid hd2
    clear hb x0 x1 x2 x3 x4 x5 y0 y1 y2 y3 y4 y5 hl1 hl2
    have x0 := hd1.cell (i := 0) rfl
    have x1 := hd1.cell (i := 1) rfl
    have x2 := hd1.cell (i := 2) rfl
    have x3 := hd1.cell (i := 3) rfl
    have x4 := hd1.cell (i := 4) rfl
    have x5 := hd1.cell (i := 5) rfl
    have y0 := hd2.cell (i := 0) rfl
    have y1 := hd2.cell (i := 1) rfl
    have y2 := hd2.cell (i := 2) rfl
    have y3 := hd2.cell (i := 3) rfl
    have y4 := hd2.cell (i := 4) rfl
    have y5 := hd2.cell (i := 5) rfl
    have hl1 := hd1.lt
    have hl2 := hd2.lt
    clear hd1 hd2
    go_wp2_with fail
    go_at_call 20
    refine (HAA.out _ HBV.out).mono ?_
    rintro e' w4 ⟨rfl, hb⟩
    have HBU := Lib.hid (HBV.out.trans (hb.mono hz3))
    have hz4 := HBU.out.size
    have hd1 := HG1.out.ext hb
    have hd2 := HG2.out.ext hb
    have HI1 := Lib.hid hd1
    have HI2 := Lib.hid hd2
    clear hb x0 x1 x2 x3 x4 x5 y0 y1 y2 y3 y4 y5 hl1 hl2
    have x0 := hd1.cell (i := 0) rfl
    have x1 := hd1.cell (i := 1) rfl
    have x2 := hd1.cell (i := 2) rfl
    have x3 := hd1.cell (i := 3) rfl
    have x4 := hd1.cell (i := 4) rfl
    have x5 := hd1.cell (i := 5) rfl
    have y0 := hd2.cell (i := 0) rfl
    have y1 := hd2.cell (i := 1) rfl
    have y2 := hd2.cell (i := 2) rfl
    have y3 := hd2.cell (i := 3) rfl
    have y4 := hd2.cell (i := 4) rfl
    have y5 := hd2.cell (i := 5) rfl
    have hl1 := hd1.lt
    have hl2 := hd2.lt
    clear hd1 hd2
    go_wp2_with fail
    go_at_call 18
    refine (HCA.out _ HBU.out).mono ?_
    rintro e' w5 ⟨rfl, hb⟩
    have HBT := Lib.hid (HBU.out.trans (hb.mono hz4))
    have hz5 := HBT.out.size
    have hd1 := HI1.out.ext hb
    have hd2 := HI2.out.ext hb
    have HJ1 := Lib.hid hd1
    have HJ2 := Lib.hid hd2
    clear hb x0 x1 x2 x3 x4 x5 y0 y1 y2 y3 y4 y5 hl1 hl2
    have x0 := hd1.cell (i := 0) rfl
    have x1 := hd1.cell (i := 1) rfl
    have x2 := hd1.cell (i := 2) rfl
    have x3 := hd1.cell (i := 3) rfl
    have x4 := hd1.cell (i := 4) rfl
    have x5 := hd1.cell (i := 5) rfl
    have y0 := hd2.cell (i := 0) rfl
    have y1 := hd2.cell (i := 1) rfl
    have y2 := hd2.cell (i := 2) rfl
    have y3 := hd2.cell (i := 3) rfl
    have y4 := hd2.cell (i := 4) rfl
    have y5 := hd2.cell (i := 5) rfl
    have hl1 := hd1.lt
    have hl2 := hd2.lt
    clear hd1 hd2
    by_cases hA0 : dA = 0
    · obtain rfl := hA0
      go_wp2_with fail
      go_at_call 18
      refine (HCB.out _ HBT.out).mono ?_
      rintro e' w6 ⟨rfl, hb⟩
      have HBS := Lib.hid (HBT.out.trans (hb.mono hz5))
      have hz6 := HBS.out.size
      have hd1 := HJ1.out.ext hb
      have hd2 := HJ2.out.ext hb
      clear hb x0 x1 x2 x3 x4 x5 y0 y1 y2 y3 y4 y5 hl1 hl2
      have x0 := hd1.cell (i := 0) rfl
      have x1 := hd1.cell (i := 1) rfl
      have x2 := hd1.cell (i := 2) rfl
      have x3 := hd1.cell (i := 3) rfl
      have x4 := hd1.cell (i := 4) rfl
      have x5 := hd1.cell (i := 5) rfl
      have y0 := hd2.cell (i := 0) rfl
      have y1 := hd2.cell (i := 1) rfl
      have y2 := hd2.cell (i := 2) rfl
      have y3 := hd2.cell (i := 3) rfl
      have y4 := hd2.cell (i := 4) rfl
      have y5 := hd2.cell (i := 5) rfl
      have hl1 := hd1.lt
      have hl2 := hd2.lt
      clear hd1 hd2
      by_cases hB0 : dB = 0
      · obtain rfl := hB0
        have hq := HQ.out
        (try simp at hq)
        subst hq
        go_wp2_with fail
        go_at_call 22
        refine (HSM.out _ HBS.out).mono ?_
        rintro e' w7 ⟨rfl, hb⟩
        have HBR := Lib.hid (HBS.out.trans (hb.mono hz6))
        clear hb x0 x1 x2 x3 x4 x5 y0 y1 y2 y3 y4 y5 hl1 hl2
        go_wp2_with fail
        go_ret
        exact ⟨rfl, HBR.out⟩
      · have hB1 : (decide (dB = 0)) = false := decide_eq_false hB0
        have hB2 : (dB == 0) = false := by simpa using hB0
        go_wp2_with fail
        go_ret
        exact ⟨rfl, HBS.out⟩
    · have hA1 : (decide (dA = 0)) = false := decide_eq_false hA0
      have hA2 : (dA == 0) = false := by simpa using hA0
      go_wp2_with fail
      go_ret
      exact ⟨rfl, HBT.out⟩
end Go.Proofs.YthcojmpigdojoaaDoor
