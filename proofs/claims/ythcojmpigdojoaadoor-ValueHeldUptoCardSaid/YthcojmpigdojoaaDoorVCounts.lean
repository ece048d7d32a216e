/- ValueCounts: what is put among parts is counted with them; what stands alone is one. Conditions: both values lie in memory, their bulk is at most 2^20; the tables and the two errors read as the texts lay them. -/
import Derived.Test.YthcojmpigdojoaaDoorVLives
set_option linter.unusedVariables false
set_option linter.unusedSimpArgs false
namespace Go.Proofs.YthcojmpigdojoaaDoor
open Go Go.RowKit Go.BigFrame
set_option maxRecDepth 100000

mutual
theorem countV_bulk : ∀ v : DVal, countV v ≤ bulkV v + 1
  | .mk k b n s l f => by
    have h1 := countL_bulk l
    have h2 := countF_bulk f
    rw [countV, bulkV]
    omega
theorem countL_bulk : ∀ l : List DVal, countL l ≤ bulkL l
  | [] => by simp [countL]
  | v :: l => by
    have h1 := countV_bulk v
    have h2 := countL_bulk l
    rw [countL, bulkL]
    omega
theorem countF_bulk : ∀ l : List (List UInt8 × DVal), countF l ≤ bulkF l
  | [] => by simp [countF]
  | (x, v) :: l => by
    have h1 := countV_bulk v
    have h2 := countF_bulk l
    rw [countF, bulkF]
    omega
end
set_option maxHeartbeats 8000000 in
theorem counts_any (A B : DVal) (S S' : Nat → Prop) (ca cb : List Value) (w : World) (hA : HasVal S w A ca) (hB : HasVal S' w B cb) (hN : NumT w) (hU : U8T w) (hba : bulkV A ≤ 1048576) (hbb : bulkV B ≤ 1048576) :
    Calls Tryd.prog 3 #[.agg ca.toArray, .agg cb.toArray] w fun e' w' => e' = .returned (.bool true) ∧ Below w.heap.size w w' := by
  have hca := countV_bulk A
  have hcb := countV_bulk B
  have HA := Lib.hid hA
  have HB := Lib.hid hB
  obtain ⟨CA, hCA⟩ : ∃ C, C = countV A := ⟨_, rfl⟩
  obtain ⟨CB, hCB⟩ : ∃ C, C = countV B := ⟨_, rfl⟩
  rw [← hCA] at hca
  rw [← hCB] at hcb
  have HCA := Lib.hid hCA
  have HCB := Lib.hid hCB
  have HLIV := Lib.hid (fun w' (hb : Below w.heap.size w w') => vlives_any w' (hN.ext hb) (U8T_ext hU hb))
  have HCNTA := Lib.hid (fun w' (h : HasVal S w' A ca) => count_any A _ _ w' h (by rw [← hCA]; omega))
  have HCNTB := Lib.hid (fun w' (h : HasVal S' w' B cb) => count_any B _ _ w' h (by rw [← hCB]; omega))
  rw [← hCA] at HCNTA
  rw [← hCB] at HCNTB
  obtain ⟨k1, b1, n1, s1, l1, f1⟩ := A
  obtain ⟨k2, b2, n2, s2, l2, f2⟩ := B
  obtain ⟨pl1, cl1, pf1, cf1, rfl, _⟩ := hasVal_mk.1 hA
  obtain ⟨pl2, cl2, pf2, cf2, rfl, _⟩ := hasVal_mk.1 hB
  clear hA hB hCA hCB hN hU
  show Calls Tryd.prog 3 #[.agg #[.int .u8 (k1 : Int), .bool b1, .int .i64 n1, .string (bs s1), .slice pl1 l1.length cl1, .slice pf1 f1.length cf1], .agg #[.int .u8 (k2 : Int), .bool b2, .int .i64 n2, .string (bs s2), .slice pl2 l2.length cl2, .slice pf2 f2.length cf2]] w _
  go_enter Tryd.func3, Tryd.ntmps3
  go_upto_region 1 with (fail)
  generalize hW0 : World.alloc (World.alloc w _) _ = W0
  have hd1 : IsBlk W0 w.heap.size #[.int .u8 (k1 : Int), .bool b1, .int .i64 n1, .string (bs s1), .slice pl1 l1.length cl1, .slice pf1 f1.length cf1] 26 := by rw [← hW0]; exact (IsBlk.new _ _ _).alloc _
  have hd2 : IsBlk W0 (w.heap.size + 1) #[.int .u8 (k2 : Int), .bool b2, .int .i64 n2, .string (bs s2), .slice pl2 l2.length cl2, .slice pf2 f2.length cf2] 26 := by rw [← hW0]; exact IsBlk.new_at (by simp)
  have hb0 : Below w.heap.size w W0 := by rw [← hW0]; exact ((Below.refl _ _).alloc (Nat.le_refl _) _).alloc (by simp) _
  have hz0 := hb0.size
  have HD1 := Lib.hid hd1
  have HD2 := Lib.hid hd2
  have HB0 := Lib.hid hb0
  clear hW0 hd1 hd2 hb0
  go_wp2_with fail
  go_at_call 11
  refine (HLIV.out W0 HB0.out).mono ?_
  rintro e' w1 ⟨rfl, hb⟩
  have HB1 := Lib.hid (HB0.out.trans (hb.mono hz0))
  have hz1 := HB1.out.size
  have hd1 := HD1.out.ext hb
  have hd2 := HD2.out.ext hb
  have HE1 := Lib.hid hd1
  have HE2 := Lib.hid hd2
  have x0 := hd1.cell (i := 0) rfl
  have x1 := hd1.cell (i := 1) rfl
  have x2 := hd1.cell (i := 2) rfl
  have x3 := hd1.cell (i := 3) rfl
  have x4 := hd1.cell (i := 4) rfl
  have x5 := hd1.cell (i := 5) rfl
  have y0 := hd2.cell (i := 0) rfl
  have y1 := hd2.cell (i := 1) rfl
  have y2 := hd2.cell (i := 2) rfl
  have y3 := hd2.cell (i := 3) rfl
  have y4 := hd2.cell (i := 4) rfl
  have y5 := hd2.cell (i := 5) rfl
  have hl1 := hd1.lt
  have hl2 := hd2.lt
  clear hb hd1 hd2 HLIV
  have hg2 : IsBlk (w1.alloc (.cells #[.int .u8 (k1 : Int), .bool b1, .int .i64 n1, .string (bs s1), .slice pl1 l1.length cl1, .slice pf1 f1.length cf1, .int .u8 (k2 : Int), .bool b2, .int .i64 n2, .string (bs s2), .slice pl2 l2.length cl2, .slice pf2 f2.length cf2] 26)) w1.heap.size ([[.int .u8 (k1 : Int), .bool b1, .int .i64 n1, .string (bs s1), .slice pl1 l1.length cl1, .slice pf1 f1.length cf1], [.int .u8 (k2 : Int), .bool b2, .int .i64 n2, .string (bs s2), .slice pl2 l2.length cl2, .slice pf2 f2.length cf2]] : List (List Value)).flatten.toArray 26 := IsBlk.new _ _ _
  have hb2 : Below w1.heap.size w1 (w1.alloc (.cells #[.int .u8 (k1 : Int), .bool b1, .int .i64 n1, .string (bs s1), .slice pl1 l1.length cl1, .slice pf1 f1.length cf1, .int .u8 (k2 : Int), .bool b2, .int .i64 n2, .string (bs s2), .slice pl2 l2.length cl2, .slice pf2 f2.length cf2] 26)) := (Below.refl _ _).alloc (Nat.le_refl _) _
  have HG2 := Lib.hid hg2
  have HA2 := Lib.hid hb2
  clear hg2 hb2
  go_wp2_with fail
  go_at_call 13
  refine (list_any _ 2 2 _).mono ?_
  rintro e' w2 ⟨rfl, hb0⟩
  have hb := below_ext HA2.out hb0
  have HB2 := Lib.hid (HB1.out.trans (hb.mono hz1))
  have hz2 := HB2.out.size
  have HE12 := Lib.hid (HE1.out.ext hb)
  have HE22 := Lib.hid (HE2.out.ext hb)
  have hcl : Calls Tryd.prog 12 #[.agg #[.int .u8 5, .bool false, .int .i64 0, .string (bs []), .slice (some ⟨w1.heap.size, 0, none⟩) 2 2, .slice none 0 0]] w2 fun e' w' => e' = .returned (.int .i64 ((1 + CA + CB : Nat) : Int)) ∧ Below w2.heap.size w2 w' := by
    have h2 : HasL (fun _ => True) w2 (some ⟨w1.heap.size, 0, none⟩) [.mk k1 b1 n1 s1 l1 f1, .mk k2 b2 n2 s2 l2 f2] := hasL_blk (HG2.out.ext hb0) trivial rfl (fun i hi _ => by
      match i, hi with
      | 0, _ => exact (HA.out.ext HB2.out).ext_to (fun _ _ => trivial) (fun _ _ _ => rfl)
      | 1, _ => exact (HB.out.ext HB2.out).ext_to (fun _ _ => trivial) (fun _ _ _ => rfl))
    have he : countV (listV [.mk k1 b1 n1 s1 l1 f1, .mk k2 b2 n2 s2 l2 f2]) = 1 + CA + CB := by
      unfold listV
      rw [countV, countL, countL, countL, countF, ← HCA.out, ← HCB.out]
      omega
    have h := count_any (listV [.mk k1 b1 n1 s1 l1 f1, .mk k2 b2 n2 s2 l2 f2]) _ _ w2 (list_has (c := 2) h2 (by simp) (by simp) (by unfold maxLen; omega)) (by rw [he]; omega)
    rw [he] at h
    exact h
  have HCL := Lib.hid hcl
  clear hb hb0 hcl HG2 x0 x1 x2 x3 x4 x5 y0 y1 y2 y3 y4 y5 hl1 hl2
  go_wp2_with fail
  go_at_call 12
  refine HCL.out.mono ?_
  rintro e' w3 ⟨rfl, hb⟩
  have HB3 := Lib.hid (HB2.out.trans (hb.mono hz2))
  have hz3 := HB3.out.size
  have hd1 := HE12.out.ext hb
  have HE13 := Lib.hid hd1
  have HE23 := Lib.hid (HE22.out.ext hb)
  have x0 := hd1.cell (i := 0) rfl
  have x1 := hd1.cell (i := 1) rfl
  have x2 := hd1.cell (i := 2) rfl
  have x3 := hd1.cell (i := 3) rfl
  have x4 := hd1.cell (i := 4) rfl
  have x5 := hd1.cell (i := 5) rfl
  have hl1 := hd1.lt
  have hput : Calls Tryd.prog 14 #[.agg #[.int .u8 6, .bool false, .int .i64 0, .string ⟨#[]⟩, .slice none 0 0, .slice none 0 0], .string ⟨#[120]⟩, .agg #[.int .u8 (k1 : Int), .bool b1, .int .i64 n1, .string (bs s1), .slice pl1 l1.length cl1, .slice pf1 f1.length cf1]] w3 fun e' w' => ∃ cs', e' = .returned (.tuple #[.agg cs'.toArray, .int .i64 0]) ∧ HasVal (fun b => w3.heap.size ≤ b) w' (.mk 6 false 0 [] [] [([120], .mk k1 b1 n1 s1 l1 f1)]) cs' ∧ Below w3.heap.size w3 w' :=
    put0_any false 0 [] [] [120] (.mk k1 b1 n1 s1 l1 f1) (fun _ => True) S [.int .u8 6, .bool false, .int .i64 0, .string ⟨#[]⟩, .slice none 0 0, .slice none 0 0] _ w3 (flat_has _ _ 6 (by omega) false 0 (by omega) (by omega) [] (by simp)) (HA.out.ext HB3.out) (by simp)
  have HPUT := Lib.hid hput
  clear hb hd1 hput
  go_wp2_with fail
  go_at_call 14
  refine HPUT.out.mono ?_
  rintro e' w4 ⟨cs4, rfl, hv4, hb⟩
  have HB4 := Lib.hid (HB3.out.trans (hb.mono hz3))
  have hz4 := HB4.out.size
  have hv4' := hv4
  obtain ⟨pl4, cl4, pf4, cf4, rfl, _⟩ := hasVal_mk.1 hv4'
  have HE14 := Lib.hid (HE13.out.ext hb)
  have HE24 := Lib.hid (HE23.out.ext hb)
  have hb45 : Below w4.heap.size w4 (w4.alloc (.cells #[.int .u8 ((6 : Nat) : Int), .bool false, .int .i64 0, .string (bs []), .slice pl4 0 cl4, .slice pf4 1 cf4] 26)) := (Below.refl _ _).alloc (Nat.le_refl _) _
  have hbx : IsBlk (w4.alloc (.cells #[.int .u8 ((6 : Nat) : Int), .bool false, .int .i64 0, .string (bs []), .slice pl4 0 cl4, .slice pf4 1 cf4] 26)) w4.heap.size #[.int .u8 ((6 : Nat) : Int), .bool false, .int .i64 0, .string (bs []), .slice pl4 0 cl4, .slice pf4 1 cf4] 26 := IsBlk.new _ _ _
  have hcs : ∀ w', Below w4.heap.size w4 w' → Calls Tryd.prog 12 #[.agg #[.int .u8 ((6 : Nat) : Int), .bool false, .int .i64 0, .string (bs []), .slice pl4 0 cl4, .slice pf4 1 cf4]] w' fun e' w'' => e' = .returned (.int .i64 ((1 + CA : Nat) : Int)) ∧ Below w'.heap.size w' w'' := fun w' hb' => by
    have he : countV (.mk 6 false 0 [] [] [([120], .mk k1 b1 n1 s1 l1 f1)]) = 1 + CA := by
      rw [countV, countL, countF, countF, ← HCA.out]
      omega
    have h := count_any (.mk 6 false 0 [] [] [([120], .mk k1 b1 n1 s1 l1 f1)]) _ _ w' (hv4.ext hb') (by rw [he]; omega)
    rw [he] at h
    exact h
  have HCS := Lib.hid hcs
  have HA4 := Lib.hid hb45
  have HX4 := Lib.hid hbx
  clear hb hv4 hv4' hb45 hbx hcs x0 x1 x2 x3 x4 x5 hl1
  go_upto_region 5 with (fail)
  generalize hW5 : World.alloc w4 _ = W5 at HA4 HX4
  have hz5 := HA4.out.size
  have hd1 := HE14.out.ext HA4.out
  have hd2 := HE24.out.ext HA4.out
  have hd3 := HX4.out
  have x0 := hd1.cell (i := 0) rfl
  have x1 := hd1.cell (i := 1) rfl
  have x2 := hd1.cell (i := 2) rfl
  have x3 := hd1.cell (i := 3) rfl
  have x4 := hd1.cell (i := 4) rfl
  have x5 := hd1.cell (i := 5) rfl
  have y0 := hd2.cell (i := 0) rfl
  have y1 := hd2.cell (i := 1) rfl
  have y2 := hd2.cell (i := 2) rfl
  have y3 := hd2.cell (i := 3) rfl
  have y4 := hd2.cell (i := 4) rfl
  have y5 := hd2.cell (i := 5) rfl
  have u0 := hd3.cell (i := 0) rfl
  have u1 := hd3.cell (i := 1) rfl
  have u2 := hd3.cell (i := 2) rfl
  have u3 := hd3.cell (i := 3) rfl
  have u4 := hd3.cell (i := 4) rfl
  have u5 := hd3.cell (i := 5) rfl
  have hl1 := hd1.lt
  have hl2 := hd2.lt
  have hl3 := hd3.lt
  have HB5 := Lib.hid (HB4.out.trans (HA4.out.mono hz4))
  have hzv : ∀ w' : World, Calls Tryd.prog 12 #[.agg #[.int .u8 0, .bool false, .int .i64 0, .string ⟨#[]⟩, .slice none 0 0, .slice none 0 0]] w' fun e' w'' => e' = .returned (.int .i64 1) ∧ Below w'.heap.size w' w'' := fun w' => count_any (.mk 0 false 0 [] [] []) _ _ w' (flat_has (fun _ => True) _ 0 (by omega) false 0 (by omega) (by omega) [] (by simp)) (by simp [countV, countL, countF])
  have HZV := Lib.hid hzv
  clear hd1 hd2 hd3 hzv hW5
  refine mixB_start [] (Cls W5) (by kernel_rfl) (Cls.of ((Below.refl _ _).drew)) (fun hCw => ?_)
  refine mixB_flt (by kernel_rfl) [0, 1, 4] 23 _ _ hCw (by kernel_rfl) ?_
  simp only [opsAt, List.map_cons, List.map_nil, List.toList_toArray, List.getD_cons_succ, List.getD_cons_zero]
  unfold Cls
  repeat (go_big_quiet_step (fail))
  refine wpQuiet_nil ?_
  (try rw [← Cls_def])
  refine mixB_ch (i := 2) (fuel := 22) (by kernel_rfl) (by kernel_rfl) ?_
  simp only [opsAt, List.map_cons, List.map_nil, List.toList_toArray, List.getD_cons_succ, List.getD_cons_zero]
  go_wp2_with (go_at_call 12; refine (HCNTA.out _ (HA.out.ext (HB5.out.trans (hCw.below.mono HB5.out.size)))).mono ?_; rintro e' w6 ⟨rfl, hb6⟩)
  refine ThenB.mk (hCw.trans hb6) (fun hCw => ?_)
  refine mixB_flt (by kernel_rfl) [3] 21 _ _ hCw (by kernel_rfl) ?_
  simp only [opsAt, List.map_cons, List.map_nil, List.toList_toArray, List.getD_cons_succ, List.getD_cons_zero]
  unfold Cls
  repeat (go_big_quiet_step (fail))
  refine wpQuiet_nil ?_
  (try rw [← Cls_def])
  refine mixB_ch (i := 5) (fuel := 20) (by kernel_rfl) (by kernel_rfl) ?_
  simp only [opsAt, List.map_cons, List.map_nil, List.toList_toArray, List.getD_cons_succ, List.getD_cons_zero]
  go_wp2_with (go_at_call 12; refine (HCNTB.out _ (HB.out.ext (HB5.out.trans (hCw.below.mono HB5.out.size)))).mono ?_; rintro e' w6 ⟨rfl, hb6⟩)
  refine ThenB.mk (hCw.trans hb6) (fun hCw => ?_)
  refine mixB_flt (by kernel_rfl) [6, 7, 8, 9, 10, 11, 12, 13, 15] 11 _ _ hCw (by kernel_rfl) ?_
  simp only [opsAt, List.map_cons, List.map_nil, List.toList_toArray, List.getD_cons_succ, List.getD_cons_zero]
  unfold Cls
  repeat (go_big_quiet_step (fail))
  refine wpQuiet_nil ?_
  (try rw [← Cls_def])
  refine mixB_ch (i := 14) (fuel := 10) (by kernel_rfl) (by kernel_rfl) ?_
  simp only [opsAt, List.map_cons, List.map_nil, List.toList_toArray, List.getD_cons_succ, List.getD_cons_zero]
  go_wp2_with (go_at_call 12; refine (HCS.out _ (HA4.out.trans (hCw.below.mono hz5))).mono ?_; rintro e' w6 ⟨rfl, hb6⟩)
  refine ThenB.mk (hCw.trans hb6) (fun hCw => ?_)
  refine mixB_ch (i := 16) (fuel := 9) (by kernel_rfl) (by kernel_rfl) ?_
  simp only [opsAt, List.map_cons, List.map_nil, List.toList_toArray, List.getD_cons_succ, List.getD_cons_zero]
  go_wp2_with (go_at_call 12; refine (HCNTA.out _ (HA.out.ext (HB5.out.trans (hCw.below.mono HB5.out.size)))).mono ?_; rintro e' w6 ⟨rfl, hb6⟩)
  refine ThenB.mk (hCw.trans hb6) (fun hCw => ?_)
  refine mixB_flt (by kernel_rfl) [17, 18, 19, 20, 21] 4 _ _ hCw (by kernel_rfl) ?_
  simp only [opsAt, List.map_cons, List.map_nil, List.toList_toArray, List.getD_cons_succ, List.getD_cons_zero]
  unfold Cls
  repeat (go_big_quiet_step (fail))
  refine wpQuiet_nil ?_
  (try rw [← Cls_def])
  refine mixB_ch (i := 22) (fuel := 3) (by kernel_rfl) (by kernel_rfl) ?_
  simp only [opsAt, List.map_cons, List.map_nil, List.toList_toArray, List.getD_cons_succ, List.getD_cons_zero]
  go_wp2_with (go_at_call 12; refine (HZV.out _).mono ?_; rintro e' w6 ⟨rfl, hb6⟩)
  refine ThenB.mk (hCw.trans hb6) (fun hCw => ?_)
  refine mixB_flt (by kernel_rfl) [23, 24, 25] 0 _ _ hCw (by kernel_rfl) ?_
  simp only [opsAt, List.map_cons, List.map_nil, List.toList_toArray, List.getD_cons_succ, List.getD_cons_zero]
  unfold Cls
  repeat (go_big_quiet_step (fail))
  refine wpQuiet_nil ?_
  (try rw [← Cls_def])
  refine mixB_end [] (by kernel_rfl) ?_
  refine wpList_nil ?_
  refine Calm.normal ?_
  have HBW := Lib.hid (HB5.out.trans (hCw.below.mono HB5.out.size))
  clear hCw x0 x1 x2 x3 x4 x5 y0 y1 y2 y3 y4 y5 u0 u1 u2 u3 u4 u5 hl1 hl2 hl3
  go_wp2_with fail
  go_ret
  exact ⟨rfl, HBW.out⟩
end Go.Proofs.YthcojmpigdojoaaDoor
