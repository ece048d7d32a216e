/- ValueHeld: the document's functions answer as the values' own. Conditions: both values lie in memory, their bulk is at most 2^20; the tables and the two errors read as the texts lay them. -/
import Derived.Test.YthcojmpigdojoaaDoorVCounts
import Derived.Test.YthcojmpigdojoaaDoorRefCnt
import Derived.Test.YthcojmpigdojoaaDoorRefCmp
import Derived.Test.YthcojmpigdojoaaDoorRefChk2
import Derived.Test.YthcojmpigdojoaaDoorSameV
set_option linter.unusedVariables false
set_option linter.unusedSimpArgs false
namespace Go.Proofs.YthcojmpigdojoaaDoor
open Go Go.RowKit Go.BigFrame
set_option maxRecDepth 100000

set_option maxHeartbeats 8000000 in
theorem held_any (A B : DVal) (SA SB : Nat → Prop) (ca cb : List Value) (w : World) (hA : HasVal SA w A ca) (hB : HasVal SB w B cb) (hN : NumT w) (hU : U8T w) (hba : bulkV A ≤ 1048576) :
    Calls Tryd.prog 5 #[.agg ca.toArray, .agg cb.toArray] w fun e' w' => e' = .returned (.bool true) ∧ Below w.heap.size w w' := by
  have hca := countV_bulk A
  have HLIV := Lib.hid (fun w' (hb : Below w.heap.size w w') => vlives_any w' (hN.ext hb) (U8T_ext hU hb))
  have HCK := Lib.hid (fun w' (hb : Below w.heap.size w w') => check_any A _ _ w' (hA.ext hb) (U8T_ext hU hb))
  have HRK := Lib.hid (fun w' (hb : Below w.heap.size w w') => ref_check_any A _ _ w' (hA.ext hb))
  have HAB := Lib.hid (fun w' (hb : Below w.heap.size w w') => cmp_any A B _ _ _ _ w' (hA.ext hb) (hB.ext hb))
  have HRB := Lib.hid (fun w' (hb : Below w.heap.size w w') => rcmp_any A B _ _ _ _ w' (hA.ext hb) (hB.ext hb))
  have HSM := Lib.hid (fun w' (hb : Below w.heap.size w w') => sam_any A B _ _ _ _ w' (hA.ext hb) (hB.ext hb))
  have HRS := Lib.hid (fun w' (hb : Below w.heap.size w w') => ref_same_any A B _ _ _ _ w' (hA.ext hb) (hB.ext hb))
  have HCN := Lib.hid (fun w' (hb : Below w.heap.size w w') => count_any A _ _ w' (hA.ext hb) (by omega))
  have HRN := Lib.hid (fun w' (hb : Below w.heap.size w w') => rcount_any A _ _ w' (hA.ext hb) (by omega))
  generalize cmpV A B = X at *
  generalize checkV 0 A = dA at *
  generalize sameV A B = q at *
  generalize countV A = CA at *
  obtain ⟨k1, b1, n1, s1, l1, f1⟩ := A
  obtain ⟨k2, b2, n2, s2, l2, f2⟩ := B
  obtain ⟨pl1, cl1, pf1, cf1, rfl, _⟩ := hasVal_mk.1 hA
  obtain ⟨pl2, cl2, pf2, cf2, rfl, _⟩ := hasVal_mk.1 hB
  clear hA hB hN hU hca
  show Calls Tryd.prog 5 #[.agg #[.int .u8 (k1 : Int), .bool b1, .int .i64 n1, .string (bs s1), .slice pl1 l1.length cl1, .slice pf1 f1.length cf1], .agg #[.int .u8 (k2 : Int), .bool b2, .int .i64 n2, .string (bs s2), .slice pl2 l2.length cl2, .slice pf2 f2.length cf2]] w _
  go_enter Tryd.func5, Tryd.ntmps5
  go_upto_region 1 with (fail)
  generalize hW0 : World.alloc (World.alloc w _) _ = W0
  have hd1 : IsBlk W0 w.heap.size #[.int .u8 (k1 : Int), .bool b1, .int .i64 n1, .string (bs s1), .slice pl1 l1.length cl1, .slice pf1 f1.length cf1] 26 := by rw [← hW0]; exact (IsBlk.new _ _ _).alloc _
  have hd2 : IsBlk W0 (w.heap.size + 1) #[.int .u8 (k2 : Int), .bool b2, .int .i64 n2, .string (bs s2), .slice pl2 l2.length cl2, .slice pf2 f2.length cf2] 26 := by rw [← hW0]; exact IsBlk.new_at (by simp)
  have hb0 : Below w.heap.size w W0 := by rw [← hW0]; exact ((Below.refl _ _).alloc (Nat.le_refl _) _).alloc (by simp) _
  have hz0 := hb0.size
  have HB0 := Lib.hid hb0
  have x0 := hd1.cell (i := 0) rfl
  have x1 := hd1.cell (i := 1) rfl
  have x2 := hd1.cell (i := 2) rfl
  have x3 := hd1.cell (i := 3) rfl
  have x4 := hd1.cell (i := 4) rfl
  have x5 := hd1.cell (i := 5) rfl
  have y0 := hd2.cell (i := 0) rfl
  have y1 := hd2.cell (i := 1) rfl
  have y2 := hd2.cell (i := 2) rfl
  have y3 := hd2.cell (i := 3) rfl
  have y4 := hd2.cell (i := 4) rfl
  have y5 := hd2.cell (i := 5) rfl
  have hl1 := hd1.lt
  have hl2 := hd2.lt
  clear hW0 hd1 hd2 hb0
  refine mixB_start [] (Cls W0) (by kernel_rfl) (Cls.of ((Below.refl _ _).drew)) (fun hCw => ?_)
  refine mixB_ch (i := 0) (fuel := 33) (by kernel_rfl) (by kernel_rfl) ?_
  simp only [opsAt, List.map_cons, List.map_nil, List.toList_toArray, List.getD_cons_succ, List.getD_cons_zero]
  go_wp2_with (go_at_call 11; refine (HLIV.out _ (HB0.out.trans (hCw.below.mono hz0))).mono ?_; rintro e' w2 ⟨rfl, hb2⟩)
  refine ThenB.mk (hCw.trans hb2) (fun hCw => ?_)
  refine mixB_flt (by kernel_rfl) [1, 2, 4] 30 _ _ hCw (by kernel_rfl) ?_
  simp only [opsAt, List.map_cons, List.map_nil, List.toList_toArray, List.getD_cons_succ, List.getD_cons_zero]
  unfold Cls
  repeat (go_big_quiet_step (fail))
  refine wpQuiet_nil ?_
  (try rw [← Cls_def])
  refine mixB_ch (i := 3) (fuel := 29) (by kernel_rfl) (by kernel_rfl) ?_
  simp only [opsAt, List.map_cons, List.map_nil, List.toList_toArray, List.getD_cons_succ, List.getD_cons_zero]
  go_wp2_with (go_at_call 18; refine (HCK.out _ (HB0.out.trans (hCw.below.mono hz0))).mono ?_; rintro e' w2 ⟨rfl, hb2⟩)
  refine ThenB.mk (hCw.trans hb2) (fun hCw => ?_)
  refine mixB_ch (i := 5) (fuel := 28) (by kernel_rfl) (by kernel_rfl) ?_
  simp only [opsAt, List.map_cons, List.map_nil, List.toList_toArray, List.getD_cons_succ, List.getD_cons_zero]
  go_wp2_with (go_at_call 19; refine (HRK.out _ (HB0.out.trans (hCw.below.mono hz0))).mono ?_; rintro e' w2 ⟨rfl, hb2⟩)
  refine ThenB.mk (hCw.trans hb2) (fun hCw => ?_)
  refine mixB_flt (by kernel_rfl) [6, 7, 8, 9, 10, 12, 13] 21 _ _ hCw (by kernel_rfl) ?_
  simp only [opsAt, List.map_cons, List.map_nil, List.toList_toArray, List.getD_cons_succ, List.getD_cons_zero]
  unfold Cls
  repeat (go_big_quiet_step (fail))
  refine wpQuiet_nil ?_
  (try rw [← Cls_def])
  refine mixB_ch (i := 11) (fuel := 20) (by kernel_rfl) (by kernel_rfl) ?_
  simp only [opsAt, List.map_cons, List.map_nil, List.toList_toArray, List.getD_cons_succ, List.getD_cons_zero]
  go_wp2_with (go_at_call 20; refine (HAB.out _ (HB0.out.trans (hCw.below.mono hz0))).mono ?_; rintro e' w2 ⟨rfl, hb2⟩)
  refine ThenB.mk (hCw.trans hb2) (fun hCw => ?_)
  refine mixB_ch (i := 14) (fuel := 19) (by kernel_rfl) (by kernel_rfl) ?_
  simp only [opsAt, List.map_cons, List.map_nil, List.toList_toArray, List.getD_cons_succ, List.getD_cons_zero]
  go_wp2_with (go_at_call 21; refine (HRB.out _ (HB0.out.trans (hCw.below.mono hz0))).mono ?_; rintro e' w2 ⟨rfl, hb2⟩)
  refine ThenB.mk (hCw.trans hb2) (fun hCw => ?_)
  refine mixB_flt (by kernel_rfl) [15, 16, 17, 18, 19, 21, 22] 12 _ _ hCw (by kernel_rfl) ?_
  simp only [opsAt, List.map_cons, List.map_nil, List.toList_toArray, List.getD_cons_succ, List.getD_cons_zero]
  unfold Cls
  repeat (go_big_quiet_step (fail))
  refine wpQuiet_nil ?_
  (try rw [← Cls_def])
  refine mixB_ch (i := 20) (fuel := 11) (by kernel_rfl) (by kernel_rfl) ?_
  simp only [opsAt, List.map_cons, List.map_nil, List.toList_toArray, List.getD_cons_succ, List.getD_cons_zero]
  go_wp2_with (go_at_call 22; refine (HSM.out _ (HB0.out.trans (hCw.below.mono hz0))).mono ?_; rintro e' w2 ⟨rfl, hb2⟩)
  refine ThenB.mk (hCw.trans hb2) (fun hCw => ?_)
  refine mixB_ch (i := 23) (fuel := 10) (by kernel_rfl) (by kernel_rfl) ?_
  simp only [opsAt, List.map_cons, List.map_nil, List.toList_toArray, List.getD_cons_succ, List.getD_cons_zero]
  go_wp2_with (go_at_call 17; refine (HRS.out _ (HB0.out.trans (hCw.below.mono hz0))).mono ?_; rintro e' w2 ⟨rfl, hb2⟩)
  refine ThenB.mk (hCw.trans hb2) (fun hCw => ?_)
  refine mixB_flt (by kernel_rfl) [24, 25, 26, 27, 29] 5 _ _ hCw (by kernel_rfl) ?_
  simp only [opsAt, List.map_cons, List.map_nil, List.toList_toArray, List.getD_cons_succ, List.getD_cons_zero]
  unfold Cls
  repeat (go_big_quiet_step (fail))
  refine wpQuiet_nil ?_
  (try rw [← Cls_def])
  refine mixB_ch (i := 28) (fuel := 4) (by kernel_rfl) (by kernel_rfl) ?_
  simp only [opsAt, List.map_cons, List.map_nil, List.toList_toArray, List.getD_cons_succ, List.getD_cons_zero]
  go_wp2_with (go_at_call 12; refine (HCN.out _ (HB0.out.trans (hCw.below.mono hz0))).mono ?_; rintro e' w2 ⟨rfl, hb2⟩)
  refine ThenB.mk (hCw.trans hb2) (fun hCw => ?_)
  refine mixB_ch (i := 30) (fuel := 3) (by kernel_rfl) (by kernel_rfl) ?_
  simp only [opsAt, List.map_cons, List.map_nil, List.toList_toArray, List.getD_cons_succ, List.getD_cons_zero]
  go_wp2_with (go_at_call 23; refine (HRN.out _ (HB0.out.trans (hCw.below.mono hz0))).mono ?_; rintro e' w2 ⟨rfl, hb2⟩)
  refine ThenB.mk (hCw.trans hb2) (fun hCw => ?_)
  refine mixB_flt (by kernel_rfl) [31, 32, 33] 0 _ _ hCw (by kernel_rfl) ?_
  simp only [opsAt, List.map_cons, List.map_nil, List.toList_toArray, List.getD_cons_succ, List.getD_cons_zero]
  unfold Cls
  repeat (go_big_quiet_step (fail))
  refine wpQuiet_nil ?_
  (try rw [← Cls_def])
  refine mixB_end [] (by kernel_rfl) ?_
  refine wpList_nil ?_
  refine Calm.normal ?_
  have HBW := Lib.hid (HB0.out.trans (hCw.below.mono hz0))
  clear hCw x0 x1 x2 x3 x4 x5 y0 y1 y2 y3 y4 y5 hl1 hl2
  go_wp2_with fail
  go_ret
  exact ⟨rfl, HBW.out⟩
end Go.Proofs.YthcojmpigdojoaaDoor
