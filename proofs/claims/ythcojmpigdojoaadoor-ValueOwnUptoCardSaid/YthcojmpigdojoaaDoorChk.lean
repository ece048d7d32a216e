/- value.check. Conditions: the value lies in memory; utf8's tables read as the text lays them. -/
import Derived.Test.YthcojmpigdojoaaDoorChkPure
import Derived.Test.YthcojmpigdojoaaDoorPush
import Derived.Below
import Derived.Deep.DeepCutAuto
set_option linter.unusedVariables false
set_option linter.unusedSimpArgs false
namespace Go.Proofs.YthcojmpigdojoaaDoor
open Go Go.RowKit Go.BigFrame
set_option maxRecDepth 100000

theorem U8T_ext {w w' : World} (h : U8T w) (hb : Below w.heap.size w w') : U8T w' := Utf8Tabs_below h hb
theorem below_lt {w w' : World} (hb : Below w.heap.size w w') : w.heap.size ≤ w'.heap.size := hb.size
theorem first5_any (g : Nat) (t : TypeId) (a b c d e : Int) (w : World) (h : IsBlk w g #[.int .i64 a, .int .i64 b, .int .i64 c, .int .i64 d, .int .i64 e] t) :
    Calls Tryd.prog 59 #[.slice (some ⟨g, 0, none⟩) 5 5] w fun e' w' => e' = .returned (.int .i64 (firstE [a, b, c, d, e])) ∧ w = w' :=
  first_any g [a, b, c, d, e] w (by simp) (fun i hi => h.cell (by
    match i, hi with
    | 0, _ | 1, _ | 2, _ | 3, _ | 4, _ => rfl))
theorem first2_any (g : Nat) (t : TypeId) (a b : Int) (w : World) (h : IsBlk w g #[.int .i64 a, .int .i64 b] t) :
    Calls Tryd.prog 59 #[.slice (some ⟨g, 0, none⟩) 2 2] w fun e' w' => e' = .returned (.int .i64 (firstE [a, b])) ∧ w = w' :=
  first_any g [a, b] w (by simp) (fun i hi => h.cell (by
    match i, hi with
    | 0, _ | 1, _ => rfl))
set_option maxHeartbeats 4000000 in
theorem check_step (m : Nat) (ih : ∀ (v : DVal) (d : Nat) (dI : Int) (S : Nat → Prop) (cs : List Value) (w : World), SizeOf.sizeOf v < m → dI = (d : Int) → d ≤ 6 → HasVal S w v cs → U8T w → Calls Tryd.prog 36 #[.agg cs.toArray, .int .i64 dI] w fun e' w' => e' = .returned (.int .i64 (checkV d v)) ∧ Below w.heap.size w w')
    (k : Nat) (b : Bool) (n : Int) (s : List UInt8) (l : List DVal) (f : List (List UInt8 × DVal)) (hm : SizeOf.sizeOf (DVal.mk k b n s l f) < m + 1) (d : Nat) (hd : d ≤ 6) (S : Nat → Prop) (pl : Option Addr) (cl : Nat) (pf : Option Addr) (cf : Nat) (w : World)
    (hk : k < 256) (hs : s.length ≤ 140737488351232) (hll : l.length ≤ 140737488351232) (hlf : f.length ≤ 140737488351232) (hl : HasL S w pl l) (hf : HasF S w pf f) (hT : U8T w) :
    Calls Tryd.prog 36 #[.agg #[.int .u8 (k : Int), .bool b, .int .i64 n, .string (bs s), .slice pl l.length cl, .slice pf f.length cf], .int .i64 d] w fun e' w' => e' = .returned (.int .i64 (checkV d (.mk k b n s l f))) ∧ Below w.heap.size w w' := by
  obtain ⟨y, hy⟩ : ∃ y, y = why0 d k b n s l.length f.length := ⟨_, rfl⟩
  obtain ⟨R, hR⟩ : ∃ R, R = checkV d (.mk k b n s l f) := ⟨_, rfl⟩
  rw [← hR]
  rw [checkV, ← hy] at hR
  obtain ⟨ll, hlle⟩ : ∃ ll, ll = l.length := ⟨_, rfl⟩
  obtain ⟨lf, hlfe⟩ : ∃ lf, lf = f.length := ⟨_, rfl⟩
  rw [← hlle, ← hlfe] at hy
  rw [← hlle] at hll ⊢
  rw [← hlfe] at hlf ⊢
  have HLL := Lib.hid hlle; clear hlle
  have HLF := Lib.hid hlfe; clear hlfe
  have HR := Lib.hid hR; clear hR
  have HY := Lib.hid hy; clear hy
  have HL := Lib.hid hl; clear hl
  have HF := Lib.hid hf; clear hf
  have HT := Lib.hid hT; clear hT
  have HM := Lib.hid hm; clear hm
  have HI := Lib.hid ih; clear ih
  have hsz := bs_size s
  go_enter Tryd.func36, Tryd.ntmps36
  go_upto_region 1 with (fail)
  generalize hW0 : World.alloc w _ = W0
  have hblk : IsBlk W0 w.heap.size #[.int .u8 (k : Int), .bool b, .int .i64 n, .string (bs s), .slice pl ll cl, .slice pf lf cf] 26 := by rw [← hW0]; exact IsBlk.new _ _ _
  have hb0 : Below w.heap.size w W0 := by rw [← hW0]; exact (Below.refl _ _).alloc (Nat.le_refl _) _
  have hlt0 : w.heap.size < W0.heap.size := hblk.lt
  have HT0 := Lib.hid (U8T_ext HT.out hb0)
  clear hW0 HT
  have HB0 := Lib.hid hb0; clear hb0
  have HBK := Lib.hid hblk; clear hblk
  generalize Value.agg _ = A0
  go_cut [5] (fun s5 wx => s5 = .bool ((k : Int) == 5 || (k : Int) == 6) ∧ W0 = wx)
  case first =>
    have c0 : W0.cell? ⟨w.heap.size, 0, none⟩ = some (.int .u8 (k : Int)) := HBK.out.cell rfl
    cases h5 : ((k : Int) == 5)
    · cases h6 : ((k : Int) == 6)
      all_goals
        go_wp2_with fail
        go_meet
        exact ⟨by simp [h5, h6], rfl⟩
    · go_wp2_with fail
      go_meet
      exact ⟨by simp [h5], rfl⟩
  case rest =>
  obtain ⟨rfl, rfl⟩ := hcut
  obtain ⟨N5, hN5⟩ : ∃ N5, N5 = ((k : Int) == 5 || (k : Int) == 6) := ⟨_, rfl⟩
  rw [← hN5]
  have HN5 := Lib.hid hN5; clear hN5
  go_upto_region 2 with (fail)
  go_cut [6] (fun s6 wx => s6 = .int .i64 y ∧ Below W0.heap.size W0 wx)
  case first =>
    have hblk := HBK.out
    have c0 : W0.cell? ⟨w.heap.size, 0, none⟩ = some (.int .u8 (k : Int)) := hblk.cell rfl
    have c1 : W0.cell? ⟨w.heap.size, 1, none⟩ = some (.bool b) := hblk.cell rfl
    have c2 : W0.cell? ⟨w.heap.size, 2, none⟩ = some (.int .i64 n) := hblk.cell rfl
    have c3 : W0.cell? ⟨w.heap.size, 3, none⟩ = some (.string (bs s)) := hblk.cell rfl
    have c4 : W0.cell? ⟨w.heap.size, 4, none⟩ = some (.slice pl ll cl) := hblk.cell rfl
    have c5 : W0.cell? ⟨w.heap.size, 5, none⟩ = some (.slice pf lf cf) := hblk.cell rfl
    clear hblk
    by_cases h3 : k = 3
    · have h3b : ((k : Int) == 3) = true := by simp; omega
      have h5b : ((k : Int) == 5) = false := by simp; omega
      have h6b : ((k : Int) == 6) = false := by simp; omega
      have h3n : ((k : Int) != 3) = false := by simp; omega
      have hk7 : (k : Int) < 7 := by omega
      have hkd : decide ((k : Int) < 7) = true := decide_eq_true hk7
      obtain rfl : N5 = false := by rw [HN5.out]; simp; omega
      clear h3
      refine mix_start [] (Cls W0) (by kernel_rfl) (Cls.of ((Below.refl _ _).drew)) ?_
      refine mix_flt (by kernel_rfl) [0, 1, 2, 3, 4, 5, 10, 11, 12, 13, 15, 16, 17, 24, 25, 26, 27, 28, 29, 30, 31, 33, 34] 20 _ _ (by kernel_rfl) ?_
      simp only [opsAt, List.map_cons, List.map_nil, List.toList_toArray, List.getD_cons_succ, List.getD_cons_zero]
      unfold Cls
      repeat (go_big_quiet_step (fail))
      refine wpQuiet_nil ?_
      (try rw [← Cls_def])
      refine mix_ch (i := 6) (fuel := 19) (by kernel_rfl) _ rfl (fun w1 hw1 => ?_)
      go_wp2_with (go_at_call 61; refine (bare_any _ _ _ _ _ _ _ _ _ _ _).mono ?_; rintro e' w' ⟨rfl, hb⟩)
      refine Then.same (hw1.trans hb) ?_
      refine mix_ch (i := 7) (fuel := 18) (by kernel_rfl) _ rfl (fun w1 hw1 => ?_)
      go_wp2_with (go_at_call 45; refine (flat_any _ _ _ _ _ _ _ _ _ _ _ _ _ _ _ _ _ _ _ _ _).mono ?_; rintro e' w' ⟨rfl, hb⟩)
      refine Then.same (hw1.trans hb) ?_
      refine mix_flt (by kernel_rfl) [8] 17 _ _ (by kernel_rfl) ?_
      simp only [opsAt, List.map_cons, List.map_nil, List.toList_toArray, List.getD_cons_succ, List.getD_cons_zero]
      unfold Cls
      repeat (go_big_quiet_step (fail))
      refine wpQuiet_nil ?_
      (try rw [← Cls_def])
      refine mix_ch (i := 9) (fuel := 16) (by kernel_rfl) _ rfl (fun w1 hw1 => ?_)
      go_wp2_with (go_at_call 60; refine (unless_any _ _ _).mono ?_; rintro e' w' ⟨rfl, rfl⟩)
      refine Then.same (hw1) ?_
      refine mix_ch (i := 14) (fuel := 15) (by kernel_rfl) _ rfl (fun w1 hw1 => ?_)
      go_wp2_with (go_at_call 60; refine (unless_any _ _ _).mono ?_; rintro e' w' ⟨rfl, rfl⟩)
      refine Then.same (hw1) ?_
      refine mix_flt (by kernel_rfl) [18, 19, 20] 12 _ _ (by kernel_rfl) ?_
      simp only [opsAt, List.map_cons, List.map_nil, List.toList_toArray, List.getD_cons_succ, List.getD_cons_zero]
      unfold Cls
      repeat (go_big_quiet_step (fail))
      refine wpQuiet_nil ?_
      (try rw [← Cls_def])
      refine mix_ch (i := 21) (fuel := 11) (by kernel_rfl) _ rfl (fun w1 hw1 => ?_)
      go_wp2_with (go_at_call 62; refine (valid_any _ _ (by omega) (U8T_ext HT0.out hw1.below)).mono ?_; rintro e' w' ⟨rfl, hb⟩)
      refine Then.same (hw1.trans hb) ?_
      refine mix_flt (by kernel_rfl) [22] 10 _ _ (by kernel_rfl) ?_
      simp only [opsAt, List.map_cons, List.map_nil, List.toList_toArray, List.getD_cons_succ, List.getD_cons_zero]
      unfold Cls
      repeat (go_big_quiet_step (fail))
      refine wpQuiet_nil ?_
      (try rw [← Cls_def])
      refine mix_ch (i := 23) (fuel := 9) (by kernel_rfl) _ rfl (fun w1 hw1 => ?_)
      go_wp2_with (go_at_call 60; refine (unless_any _ _ _).mono ?_; rintro e' w' ⟨rfl, rfl⟩)
      refine Then.same (hw1) ?_
      refine mix_ch (i := 32) (fuel := 8) (by kernel_rfl) _ rfl (fun w1 hw1 => ?_)
      go_wp2_with (go_at_call 60; refine (unless_any _ _ _).mono ?_; rintro e' w' ⟨rfl, rfl⟩)
      refine Then.same (hw1) ?_
      refine mix_flt (by kernel_rfl) [35, 36, 37, 38] 4 _ _ (by kernel_rfl) ?_
      simp only [opsAt, List.map_cons, List.map_nil, List.toList_toArray, List.getD_cons_succ, List.getD_cons_zero]
      unfold Cls
      repeat (go_big_quiet_step (fail))
      refine wpQuiet_nil ?_
      (try rw [← Cls_def])
      refine mix_ch (i := 39) (fuel := 3) (by kernel_rfl) _ rfl (fun w1 hw1 => ?_)
      go_wp2_with (go_at_call 60; refine (unless_any _ _ _).mono ?_; rintro e' w' ⟨rfl, rfl⟩)
      refine Then.same (hw1) ?_
      refine mix_ch (i := 40) (fuel := 2) (by kernel_rfl) _ rfl (fun w1 hw1 => ?_)
      go_wp2_with (fail)
      refine Then.alloc hw1 ?_
      have hwa := hw1
      obtain ⟨wa, rfl⟩ : ∃ wo : World, wo = w1 := ⟨_, rfl⟩
      refine mix_ch (i := 41) (fuel := 1) (by kernel_rfl) _ rfl (fun w1 hw1 => ?_)
      go_wp2_with (go_at_call 59; refine (first5_any wa.heap.size _ _ _ _ _ _ _ ((IsBlk.new wa _ _).ext hw1.below)).mono ?_; rintro e' w' ⟨rfl, rfl⟩)
      refine Then.same (hw1) ?_
      refine mix_flt (by kernel_rfl) [42] 0 _ _ (by kernel_rfl) ?_
      simp only [opsAt, List.map_cons, List.map_nil, List.toList_toArray, List.getD_cons_succ, List.getD_cons_zero]
      unfold Cls
      repeat (go_big_quiet_step (fail))
      refine wpQuiet_nil ?_
      (try rw [← Cls_def])
      refine mix_end [] (by kernel_rfl) (fun w1 hw1 => ?_)
      refine wpList_nil ?_
      refine Calm.normal ?_
      go_wp2_with fail
      go_meet
      refine ⟨?_, (below_ext (hwa.below.alloc (by have := hwa.below.size; omega) _) hw1.below)⟩
      rw [HY.out]
      simp only [why0, bareB, h3b, h5b, h6b, hkd, Bool.true_and, Bool.false_and, Bool.or_true, Bool.true_or, Bool.or_false, Bool.false_or, Bool.not_true, Bool.not_false, bs_toList]
    · have h3b : ((k : Int) == 3) = false := by simp; omega
      have h3n : ((k : Int) != 3) = true := by simp; omega
      by_cases h5 : k = 5
      · have h5b : ((k : Int) == 5) = true := by simp; omega
        have hk7 : (k : Int) < 7 := by omega
        have hkd : decide ((k : Int) < 7) = true := decide_eq_true hk7
        obtain rfl : N5 = true := by rw [HN5.out, h5b]; rfl
        clear h5
        refine mix_start [] (Cls W0) (by kernel_rfl) (Cls.of ((Below.refl _ _).drew)) ?_
        refine mix_flt (by kernel_rfl) [0, 1, 2, 3, 4, 5, 10, 11, 12, 13, 15, 16, 17, 24, 25, 26, 27, 28, 29, 30, 31, 33, 34] 20 _ _ (by kernel_rfl) ?_
        simp only [opsAt, List.map_cons, List.map_nil, List.toList_toArray, List.getD_cons_succ, List.getD_cons_zero]
        unfold Cls
        repeat (go_big_quiet_step (fail))
        refine wpQuiet_nil ?_
        (try rw [← Cls_def])
        refine mix_ch (i := 6) (fuel := 19) (by kernel_rfl) _ rfl (fun w1 hw1 => ?_)
        go_wp2_with (go_at_call 61; refine (bare_any _ _ _ _ _ _ _ _ _ _ _).mono ?_; rintro e' w' ⟨rfl, hb⟩)
        refine Then.same (hw1.trans hb) ?_
        refine mix_ch (i := 7) (fuel := 18) (by kernel_rfl) _ rfl (fun w1 hw1 => ?_)
        go_wp2_with (go_at_call 45; refine (flat_any _ _ _ _ _ _ _ _ _ _ _ _ _ _ _ _ _ _ _ _ _).mono ?_; rintro e' w' ⟨rfl, hb⟩)
        refine Then.same (hw1.trans hb) ?_
        refine mix_flt (by kernel_rfl) [8] 17 _ _ (by kernel_rfl) ?_
        simp only [opsAt, List.map_cons, List.map_nil, List.toList_toArray, List.getD_cons_succ, List.getD_cons_zero]
        unfold Cls
        repeat (go_big_quiet_step (fail))
        refine wpQuiet_nil ?_
        (try rw [← Cls_def])
        refine mix_ch (i := 9) (fuel := 16) (by kernel_rfl) _ rfl (fun w1 hw1 => ?_)
        go_wp2_with (go_at_call 60; refine (unless_any _ _ _).mono ?_; rintro e' w' ⟨rfl, rfl⟩)
        refine Then.same (hw1) ?_
        refine mix_ch (i := 14) (fuel := 15) (by kernel_rfl) _ rfl (fun w1 hw1 => ?_)
        go_wp2_with (go_at_call 60; refine (unless_any _ _ _).mono ?_; rintro e' w' ⟨rfl, rfl⟩)
        refine Then.same (hw1) ?_
        refine mix_flt (by kernel_rfl) [18, 19, 20] 12 _ _ (by kernel_rfl) ?_
        simp only [opsAt, List.map_cons, List.map_nil, List.toList_toArray, List.getD_cons_succ, List.getD_cons_zero]
        unfold Cls
        repeat (go_big_quiet_step (fail))
        refine wpQuiet_nil ?_
        (try rw [← Cls_def])
        refine mix_ch (i := 21) (fuel := 11) (by kernel_rfl) _ rfl (fun w1 hw1 => ?_)
        go_wp2_with (go_at_call 62; fail)
        refine Then.same (hw1) ?_
        refine mix_flt (by kernel_rfl) [22] 10 _ _ (by kernel_rfl) ?_
        simp only [opsAt, List.map_cons, List.map_nil, List.toList_toArray, List.getD_cons_succ, List.getD_cons_zero]
        unfold Cls
        repeat (go_big_quiet_step (fail))
        refine wpQuiet_nil ?_
        (try rw [← Cls_def])
        refine mix_ch (i := 23) (fuel := 9) (by kernel_rfl) _ rfl (fun w1 hw1 => ?_)
        go_wp2_with (go_at_call 60; refine (unless_any _ _ _).mono ?_; rintro e' w' ⟨rfl, rfl⟩)
        refine Then.same (hw1) ?_
        refine mix_ch (i := 32) (fuel := 8) (by kernel_rfl) _ rfl (fun w1 hw1 => ?_)
        go_wp2_with (go_at_call 60; refine (unless_any _ _ _).mono ?_; rintro e' w' ⟨rfl, rfl⟩)
        refine Then.same (hw1) ?_
        refine mix_flt (by kernel_rfl) [35, 36, 37, 38] 4 _ _ (by kernel_rfl) ?_
        simp only [opsAt, List.map_cons, List.map_nil, List.toList_toArray, List.getD_cons_succ, List.getD_cons_zero]
        unfold Cls
        repeat (go_big_quiet_step (fail))
        refine wpQuiet_nil ?_
        (try rw [← Cls_def])
        refine mix_ch (i := 39) (fuel := 3) (by kernel_rfl) _ rfl (fun w1 hw1 => ?_)
        go_wp2_with (go_at_call 60; refine (unless_any _ _ _).mono ?_; rintro e' w' ⟨rfl, rfl⟩)
        refine Then.same (hw1) ?_
        refine mix_ch (i := 40) (fuel := 2) (by kernel_rfl) _ rfl (fun w1 hw1 => ?_)
        go_wp2_with (fail)
        refine Then.alloc hw1 ?_
        have hwa := hw1
        obtain ⟨wa, rfl⟩ : ∃ wo : World, wo = w1 := ⟨_, rfl⟩
        refine mix_ch (i := 41) (fuel := 1) (by kernel_rfl) _ rfl (fun w1 hw1 => ?_)
        go_wp2_with (go_at_call 59; refine (first5_any wa.heap.size _ _ _ _ _ _ _ ((IsBlk.new wa _ _).ext hw1.below)).mono ?_; rintro e' w' ⟨rfl, rfl⟩)
        refine Then.same (hw1) ?_
        refine mix_flt (by kernel_rfl) [42] 0 _ _ (by kernel_rfl) ?_
        simp only [opsAt, List.map_cons, List.map_nil, List.toList_toArray, List.getD_cons_succ, List.getD_cons_zero]
        unfold Cls
        repeat (go_big_quiet_step (fail))
        refine wpQuiet_nil ?_
        (try rw [← Cls_def])
        refine mix_end [] (by kernel_rfl) (fun w1 hw1 => ?_)
        refine wpList_nil ?_
        refine Calm.normal ?_
        go_wp2_with fail
        go_meet
        refine ⟨?_, (below_ext (hwa.below.alloc (by have := hwa.below.size; omega) _) hw1.below)⟩
        rw [HY.out]
        simp only [why0, bareB, h3b, h5b, hkd, Bool.true_and, Bool.false_and, Bool.or_true, Bool.true_or, Bool.or_false, Bool.false_or, Bool.not_true, Bool.not_false, bs_toList]
      · have h5b : ((k : Int) == 5) = false := by simp; omega
        by_cases h6 : k = 6
        · have h6b : ((k : Int) == 6) = true := by simp; omega
          have hk7 : (k : Int) < 7 := by omega
          have hkd : decide ((k : Int) < 7) = true := decide_eq_true hk7
          obtain rfl : N5 = true := by rw [HN5.out, h5b, h6b]; rfl
          clear h6
          refine mix_start [] (Cls W0) (by kernel_rfl) (Cls.of ((Below.refl _ _).drew)) ?_
          refine mix_flt (by kernel_rfl) [0, 1, 2, 3, 4, 5, 10, 11, 12, 13, 15, 16, 17, 24, 25, 26, 27, 28, 29, 30, 31, 33, 34] 20 _ _ (by kernel_rfl) ?_
          simp only [opsAt, List.map_cons, List.map_nil, List.toList_toArray, List.getD_cons_succ, List.getD_cons_zero]
          unfold Cls
          repeat (go_big_quiet_step (fail))
          refine wpQuiet_nil ?_
          (try rw [← Cls_def])
          refine mix_ch (i := 6) (fuel := 19) (by kernel_rfl) _ rfl (fun w1 hw1 => ?_)
          go_wp2_with (go_at_call 61; refine (bare_any _ _ _ _ _ _ _ _ _ _ _).mono ?_; rintro e' w' ⟨rfl, hb⟩)
          refine Then.same (hw1.trans hb) ?_
          refine mix_ch (i := 7) (fuel := 18) (by kernel_rfl) _ rfl (fun w1 hw1 => ?_)
          go_wp2_with (go_at_call 45; refine (flat_any _ _ _ _ _ _ _ _ _ _ _ _ _ _ _ _ _ _ _ _ _).mono ?_; rintro e' w' ⟨rfl, hb⟩)
          refine Then.same (hw1.trans hb) ?_
          refine mix_flt (by kernel_rfl) [8] 17 _ _ (by kernel_rfl) ?_
          simp only [opsAt, List.map_cons, List.map_nil, List.toList_toArray, List.getD_cons_succ, List.getD_cons_zero]
          unfold Cls
          repeat (go_big_quiet_step (fail))
          refine wpQuiet_nil ?_
          (try rw [← Cls_def])
          refine mix_ch (i := 9) (fuel := 16) (by kernel_rfl) _ rfl (fun w1 hw1 => ?_)
          go_wp2_with (go_at_call 60; refine (unless_any _ _ _).mono ?_; rintro e' w' ⟨rfl, rfl⟩)
          refine Then.same (hw1) ?_
          refine mix_ch (i := 14) (fuel := 15) (by kernel_rfl) _ rfl (fun w1 hw1 => ?_)
          go_wp2_with (go_at_call 60; refine (unless_any _ _ _).mono ?_; rintro e' w' ⟨rfl, rfl⟩)
          refine Then.same (hw1) ?_
          refine mix_flt (by kernel_rfl) [18, 19, 20] 12 _ _ (by kernel_rfl) ?_
          simp only [opsAt, List.map_cons, List.map_nil, List.toList_toArray, List.getD_cons_succ, List.getD_cons_zero]
          unfold Cls
          repeat (go_big_quiet_step (fail))
          refine wpQuiet_nil ?_
          (try rw [← Cls_def])
          refine mix_ch (i := 21) (fuel := 11) (by kernel_rfl) _ rfl (fun w1 hw1 => ?_)
          go_wp2_with (go_at_call 62; fail)
          refine Then.same (hw1) ?_
          refine mix_flt (by kernel_rfl) [22] 10 _ _ (by kernel_rfl) ?_
          simp only [opsAt, List.map_cons, List.map_nil, List.toList_toArray, List.getD_cons_succ, List.getD_cons_zero]
          unfold Cls
          repeat (go_big_quiet_step (fail))
          refine wpQuiet_nil ?_
          (try rw [← Cls_def])
          refine mix_ch (i := 23) (fuel := 9) (by kernel_rfl) _ rfl (fun w1 hw1 => ?_)
          go_wp2_with (go_at_call 60; refine (unless_any _ _ _).mono ?_; rintro e' w' ⟨rfl, rfl⟩)
          refine Then.same (hw1) ?_
          refine mix_ch (i := 32) (fuel := 8) (by kernel_rfl) _ rfl (fun w1 hw1 => ?_)
          go_wp2_with (go_at_call 60; refine (unless_any _ _ _).mono ?_; rintro e' w' ⟨rfl, rfl⟩)
          refine Then.same (hw1) ?_
          refine mix_flt (by kernel_rfl) [35, 36, 37, 38] 4 _ _ (by kernel_rfl) ?_
          simp only [opsAt, List.map_cons, List.map_nil, List.toList_toArray, List.getD_cons_succ, List.getD_cons_zero]
          unfold Cls
          repeat (go_big_quiet_step (fail))
          refine wpQuiet_nil ?_
          (try rw [← Cls_def])
          refine mix_ch (i := 39) (fuel := 3) (by kernel_rfl) _ rfl (fun w1 hw1 => ?_)
          go_wp2_with (go_at_call 60; refine (unless_any _ _ _).mono ?_; rintro e' w' ⟨rfl, rfl⟩)
          refine Then.same (hw1) ?_
          refine mix_ch (i := 40) (fuel := 2) (by kernel_rfl) _ rfl (fun w1 hw1 => ?_)
          go_wp2_with (fail)
          refine Then.alloc hw1 ?_
          have hwa := hw1
          obtain ⟨wa, rfl⟩ : ∃ wo : World, wo = w1 := ⟨_, rfl⟩
          refine mix_ch (i := 41) (fuel := 1) (by kernel_rfl) _ rfl (fun w1 hw1 => ?_)
          go_wp2_with (go_at_call 59; refine (first5_any wa.heap.size _ _ _ _ _ _ _ ((IsBlk.new wa _ _).ext hw1.below)).mono ?_; rintro e' w' ⟨rfl, rfl⟩)
          refine Then.same (hw1) ?_
          refine mix_flt (by kernel_rfl) [42] 0 _ _ (by kernel_rfl) ?_
          simp only [opsAt, List.map_cons, List.map_nil, List.toList_toArray, List.getD_cons_succ, List.getD_cons_zero]
          unfold Cls
          repeat (go_big_quiet_step (fail))
          refine wpQuiet_nil ?_
          (try rw [← Cls_def])
          refine mix_end [] (by kernel_rfl) (fun w1 hw1 => ?_)
          refine wpList_nil ?_
          refine Calm.normal ?_
          go_wp2_with fail
          go_meet
          refine ⟨?_, (below_ext (hwa.below.alloc (by have := hwa.below.size; omega) _) hw1.below)⟩
          rw [HY.out]
          simp only [why0, bareB, h3b, h5b, h6b, hkd, Bool.true_and, Bool.false_and, Bool.or_true, Bool.true_or, Bool.or_false, Bool.false_or, Bool.not_true, Bool.not_false, bs_toList]
        · have h6b : ((k : Int) == 6) = false := by simp; omega
          obtain rfl : N5 = false := by rw [HN5.out, h5b, h6b]; rfl
          by_cases h7 : k < 7
          · have hk7 : (k : Int) < 7 := by omega
            have hkd : decide ((k : Int) < 7) = true := decide_eq_true hk7
            refine mix_start [] (Cls W0) (by kernel_rfl) (Cls.of ((Below.refl _ _).drew)) ?_
            refine mix_flt (by kernel_rfl) [0, 1, 2, 3, 4, 5, 10, 11, 12, 13, 15, 16, 17, 24, 25, 26, 27, 28, 29, 30, 31, 33, 34] 20 _ _ (by kernel_rfl) ?_
            simp only [opsAt, List.map_cons, List.map_nil, List.toList_toArray, List.getD_cons_succ, List.getD_cons_zero]
            unfold Cls
            repeat (go_big_quiet_step (fail))
            refine wpQuiet_nil ?_
            (try rw [← Cls_def])
            refine mix_ch (i := 6) (fuel := 19) (by kernel_rfl) _ rfl (fun w1 hw1 => ?_)
            go_wp2_with (go_at_call 61; refine (bare_any _ _ _ _ _ _ _ _ _ _ _).mono ?_; rintro e' w' ⟨rfl, hb⟩)
            refine Then.same (hw1.trans hb) ?_
            refine mix_ch (i := 7) (fuel := 18) (by kernel_rfl) _ rfl (fun w1 hw1 => ?_)
            go_wp2_with (go_at_call 45; refine (flat_any _ _ _ _ _ _ _ _ _ _ _ _ _ _ _ _ _ _ _ _ _).mono ?_; rintro e' w' ⟨rfl, hb⟩)
            refine Then.same (hw1.trans hb) ?_
            refine mix_flt (by kernel_rfl) [8] 17 _ _ (by kernel_rfl) ?_
            simp only [opsAt, List.map_cons, List.map_nil, List.toList_toArray, List.getD_cons_succ, List.getD_cons_zero]
            unfold Cls
            repeat (go_big_quiet_step (fail))
            refine wpQuiet_nil ?_
            (try rw [← Cls_def])
            refine mix_ch (i := 9) (fuel := 16) (by kernel_rfl) _ rfl (fun w1 hw1 => ?_)
            go_wp2_with (go_at_call 60; refine (unless_any _ _ _).mono ?_; rintro e' w' ⟨rfl, rfl⟩)
            refine Then.same (hw1) ?_
            refine mix_ch (i := 14) (fuel := 15) (by kernel_rfl) _ rfl (fun w1 hw1 => ?_)
            go_wp2_with (go_at_call 60; refine (unless_any _ _ _).mono ?_; rintro e' w' ⟨rfl, rfl⟩)
            refine Then.same (hw1) ?_
            refine mix_flt (by kernel_rfl) [18, 19, 20] 12 _ _ (by kernel_rfl) ?_
            simp only [opsAt, List.map_cons, List.map_nil, List.toList_toArray, List.getD_cons_succ, List.getD_cons_zero]
            unfold Cls
            repeat (go_big_quiet_step (fail))
            refine wpQuiet_nil ?_
            (try rw [← Cls_def])
            refine mix_ch (i := 21) (fuel := 11) (by kernel_rfl) _ rfl (fun w1 hw1 => ?_)
            go_wp2_with (go_at_call 62; fail)
            refine Then.same (hw1) ?_
            refine mix_flt (by kernel_rfl) [22] 10 _ _ (by kernel_rfl) ?_
            simp only [opsAt, List.map_cons, List.map_nil, List.toList_toArray, List.getD_cons_succ, List.getD_cons_zero]
            unfold Cls
            repeat (go_big_quiet_step (fail))
            refine wpQuiet_nil ?_
            (try rw [← Cls_def])
            refine mix_ch (i := 23) (fuel := 9) (by kernel_rfl) _ rfl (fun w1 hw1 => ?_)
            go_wp2_with (go_at_call 60; refine (unless_any _ _ _).mono ?_; rintro e' w' ⟨rfl, rfl⟩)
            refine Then.same (hw1) ?_
            refine mix_ch (i := 32) (fuel := 8) (by kernel_rfl) _ rfl (fun w1 hw1 => ?_)
            go_wp2_with (go_at_call 60; refine (unless_any _ _ _).mono ?_; rintro e' w' ⟨rfl, rfl⟩)
            refine Then.same (hw1) ?_
            refine mix_flt (by kernel_rfl) [35, 36, 37, 38] 4 _ _ (by kernel_rfl) ?_
            simp only [opsAt, List.map_cons, List.map_nil, List.toList_toArray, List.getD_cons_succ, List.getD_cons_zero]
            unfold Cls
            repeat (go_big_quiet_step (fail))
            refine wpQuiet_nil ?_
            (try rw [← Cls_def])
            refine mix_ch (i := 39) (fuel := 3) (by kernel_rfl) _ rfl (fun w1 hw1 => ?_)
            go_wp2_with (go_at_call 60; refine (unless_any _ _ _).mono ?_; rintro e' w' ⟨rfl, rfl⟩)
            refine Then.same (hw1) ?_
            refine mix_ch (i := 40) (fuel := 2) (by kernel_rfl) _ rfl (fun w1 hw1 => ?_)
            go_wp2_with (fail)
            refine Then.alloc hw1 ?_
            have hwa := hw1
            obtain ⟨wa, rfl⟩ : ∃ wo : World, wo = w1 := ⟨_, rfl⟩
            refine mix_ch (i := 41) (fuel := 1) (by kernel_rfl) _ rfl (fun w1 hw1 => ?_)
            go_wp2_with (go_at_call 59; refine (first5_any wa.heap.size _ _ _ _ _ _ _ ((IsBlk.new wa _ _).ext hw1.below)).mono ?_; rintro e' w' ⟨rfl, rfl⟩)
            refine Then.same (hw1) ?_
            refine mix_flt (by kernel_rfl) [42] 0 _ _ (by kernel_rfl) ?_
            simp only [opsAt, List.map_cons, List.map_nil, List.toList_toArray, List.getD_cons_succ, List.getD_cons_zero]
            unfold Cls
            repeat (go_big_quiet_step (fail))
            refine wpQuiet_nil ?_
            (try rw [← Cls_def])
            refine mix_end [] (by kernel_rfl) (fun w1 hw1 => ?_)
            refine wpList_nil ?_
            refine Calm.normal ?_
            go_wp2_with fail
            go_meet
            refine ⟨?_, (below_ext (hwa.below.alloc (by have := hwa.below.size; omega) _) hw1.below)⟩
            rw [HY.out]
            simp only [why0, bareB, h3b, h5b, h6b, hkd, Bool.true_and, Bool.false_and, Bool.or_true, Bool.true_or, Bool.or_false, Bool.false_or, Bool.not_true, Bool.not_false, bs_toList]
          · have hk7 : (7 : Int) ≤ (k : Int) := by omega
            have hkd : decide ((k : Int) < 7) = false := decide_eq_false (by omega)
            refine mix_start [] (Cls W0) (by kernel_rfl) (Cls.of ((Below.refl _ _).drew)) ?_
            refine mix_flt (by kernel_rfl) [0, 1, 2, 3, 4, 5, 10, 11, 12, 13, 15, 16, 17, 24, 25, 26, 27, 28, 29, 30, 31, 33, 34] 20 _ _ (by kernel_rfl) ?_
            simp only [opsAt, List.map_cons, List.map_nil, List.toList_toArray, List.getD_cons_succ, List.getD_cons_zero]
            unfold Cls
            repeat (go_big_quiet_step (fail))
            refine wpQuiet_nil ?_
            (try rw [← Cls_def])
            refine mix_ch (i := 6) (fuel := 19) (by kernel_rfl) _ rfl (fun w1 hw1 => ?_)
            go_wp2_with (go_at_call 61; fail)
            refine Then.same (hw1) ?_
            refine mix_ch (i := 7) (fuel := 18) (by kernel_rfl) _ rfl (fun w1 hw1 => ?_)
            go_wp2_with (go_at_call 45; fail)
            refine Then.same (hw1) ?_
            refine mix_flt (by kernel_rfl) [8] 17 _ _ (by kernel_rfl) ?_
            simp only [opsAt, List.map_cons, List.map_nil, List.toList_toArray, List.getD_cons_succ, List.getD_cons_zero]
            unfold Cls
            repeat (go_big_quiet_step (fail))
            refine wpQuiet_nil ?_
            (try rw [← Cls_def])
            refine mix_ch (i := 9) (fuel := 16) (by kernel_rfl) _ rfl (fun w1 hw1 => ?_)
            go_wp2_with (go_at_call 60; refine (unless_any _ _ _).mono ?_; rintro e' w' ⟨rfl, rfl⟩)
            refine Then.same (hw1) ?_
            refine mix_ch (i := 14) (fuel := 15) (by kernel_rfl) _ rfl (fun w1 hw1 => ?_)
            go_wp2_with (go_at_call 60; refine (unless_any _ _ _).mono ?_; rintro e' w' ⟨rfl, rfl⟩)
            refine Then.same (hw1) ?_
            refine mix_flt (by kernel_rfl) [18, 19, 20] 12 _ _ (by kernel_rfl) ?_
            simp only [opsAt, List.map_cons, List.map_nil, List.toList_toArray, List.getD_cons_succ, List.getD_cons_zero]
            unfold Cls
            repeat (go_big_quiet_step (fail))
            refine wpQuiet_nil ?_
            (try rw [← Cls_def])
            refine mix_ch (i := 21) (fuel := 11) (by kernel_rfl) _ rfl (fun w1 hw1 => ?_)
            go_wp2_with (go_at_call 62; fail)
            refine Then.same (hw1) ?_
            refine mix_flt (by kernel_rfl) [22] 10 _ _ (by kernel_rfl) ?_
            simp only [opsAt, List.map_cons, List.map_nil, List.toList_toArray, List.getD_cons_succ, List.getD_cons_zero]
            unfold Cls
            repeat (go_big_quiet_step (fail))
            refine wpQuiet_nil ?_
            (try rw [← Cls_def])
            refine mix_ch (i := 23) (fuel := 9) (by kernel_rfl) _ rfl (fun w1 hw1 => ?_)
            go_wp2_with (go_at_call 60; refine (unless_any _ _ _).mono ?_; rintro e' w' ⟨rfl, rfl⟩)
            refine Then.same (hw1) ?_
            refine mix_ch (i := 32) (fuel := 8) (by kernel_rfl) _ rfl (fun w1 hw1 => ?_)
            go_wp2_with (go_at_call 60; refine (unless_any _ _ _).mono ?_; rintro e' w' ⟨rfl, rfl⟩)
            refine Then.same (hw1) ?_
            refine mix_flt (by kernel_rfl) [35, 36, 37, 38] 4 _ _ (by kernel_rfl) ?_
            simp only [opsAt, List.map_cons, List.map_nil, List.toList_toArray, List.getD_cons_succ, List.getD_cons_zero]
            unfold Cls
            repeat (go_big_quiet_step (fail))
            refine wpQuiet_nil ?_
            (try rw [← Cls_def])
            refine mix_ch (i := 39) (fuel := 3) (by kernel_rfl) _ rfl (fun w1 hw1 => ?_)
            go_wp2_with (go_at_call 60; refine (unless_any _ _ _).mono ?_; rintro e' w' ⟨rfl, rfl⟩)
            refine Then.same (hw1) ?_
            refine mix_ch (i := 40) (fuel := 2) (by kernel_rfl) _ rfl (fun w1 hw1 => ?_)
            go_wp2_with (fail)
            refine Then.alloc hw1 ?_
            have hwa := hw1
            obtain ⟨wa, rfl⟩ : ∃ wo : World, wo = w1 := ⟨_, rfl⟩
            refine mix_ch (i := 41) (fuel := 1) (by kernel_rfl) _ rfl (fun w1 hw1 => ?_)
            go_wp2_with (go_at_call 59; refine (first5_any wa.heap.size _ _ _ _ _ _ _ ((IsBlk.new wa _ _).ext hw1.below)).mono ?_; rintro e' w' ⟨rfl, rfl⟩)
            refine Then.same (hw1) ?_
            refine mix_flt (by kernel_rfl) [42] 0 _ _ (by kernel_rfl) ?_
            simp only [opsAt, List.map_cons, List.map_nil, List.toList_toArray, List.getD_cons_succ, List.getD_cons_zero]
            unfold Cls
            repeat (go_big_quiet_step (fail))
            refine wpQuiet_nil ?_
            (try rw [← Cls_def])
            refine mix_end [] (by kernel_rfl) (fun w1 hw1 => ?_)
            refine wpList_nil ?_
            refine Calm.normal ?_
            go_wp2_with fail
            go_meet
            refine ⟨?_, (below_ext (hwa.below.alloc (by have := hwa.below.size; omega) _) hw1.below)⟩
            rw [HY.out]
            simp only [why0, bareB, h3b, h5b, h6b, hkd, Bool.true_and, Bool.false_and, Bool.or_true, Bool.true_or, Bool.or_false, Bool.false_or, Bool.not_true, Bool.not_false, bs_toList]
  case rest =>
    obtain ⟨rfl, hbw⟩ := hcut
    have HBW := Lib.hid hbw; clear hbw
    obtain ⟨Z, hZ⟩ : ∃ Z, Z = orE y (checkL (d + 1) l) := ⟨_, rfl⟩
    have hRZ : R = orE Z (checkF (d + 1) [] f) := by rw [HR.out, hZ, orE_assoc]
    have HRZ := Lib.hid hRZ; clear hRZ HR
    have HZ := Lib.hid hZ; clear hZ
    have hdep : y = 0 → 0 < ll ∨ 0 < lf → d < 6 := fun h0 hp => why0_depth (HY.out.symm.trans h0) hp
    have HD := Lib.hid hdep; clear hdep
    go_upto_block 0 with (fail)
    go_cut [6] (fun s6 wx => s6 = .int .i64 Z ∧ Below W0.heap.size W0 wx)
    case first =>
     go_wp2
     go_loopw [7, 6] (fun i v wr => ∃ (j : Nat) (z : Int), i = .int .i64 j ∧ v = .int .i64 z ∧ j ≤ ll ∧ (z = 0 → y = 0) ∧ orE z (checkL (d + 1) (l.drop j)) = Z ∧ Below W0.heap.size W0 wr) (fun i _ _ => ll - (intOf i).toNat)
     case atStart => exact ⟨0, y, rfl, rfl, by omega, id, HZ.out.symm, HBW.out⟩
     case round =>
     clear HBW
     obtain ⟨j, z, rfl, rfl, hj, hzy, hrel, hbw⟩ := hrel
     have HZY := Lib.hid hzy; clear hzy
     have HREL := Lib.hid hrel; clear hrel
     have HBW := Lib.hid hbw; clear hbw
     have c4 : wr.cell? ⟨w.heap.size, 4, none⟩ = some (.slice pl ll cl) := (HBK.out.below HBW.out hlt0).cell rfl
     have c5 : wr.cell? ⟨w.heap.size, 5, none⟩ = some (.slice pf lf cf) := (HBK.out.below HBW.out hlt0).cell rfl
     by_cases hlt : j < ll ∧ z = 0
     · obtain ⟨hlt, hz⟩ := hlt
       have hdI : (d : Int) + 1 ≤ 6 := by have := HD.out (HZY.out hz) (Or.inl (by omega)); omega
       have HY0 := Lib.hid (HZY.out hz); clear HZY
       subst hz
       have hj2 : j < l.length := by rw [← HLL.out]; exact hlt
       obtain ⟨g, o, cs, hpl, hcells, hval⟩ := (HL.out.ext (Below.trans HB0.out (HBW.out.mono (by omega)))) j hj2
       have hdrop := checkL_drop (d := d + 1) hj2
       have hsz2 := DVal.size_l (k := k) (b := b) (n := n) (s := s) (f := f) l[j] (List.getElem_mem _)
       generalize l[j] = v at hval hdrop hsz2
       have HS2 := Lib.hid hsz2; clear hsz2
       have HDR := Lib.hid hdrop; clear hdrop
       obtain ⟨k1, b1, n1, s1, l1, f1⟩ := v
       have HV := Lib.hid hval
       obtain ⟨pl1, cl1, pf1, cf1, rfl, hbd, _, _⟩ := hasVal_mk.1 hval
       clear hval
       obtain ⟨e0, e1, e2, e3, e4, e5⟩ := hcells.six
       clear hcells hbd
       subst hpl
       go_wp2_with fail
       go_at_call 36
       refine (HI.out (.mk k1 b1 n1 s1 l1 f1) (d + 1) _ S _ wr (by have := HS2.out; have := HM.out; omega) rfl (by omega) HV.out (U8T_ext HT0.out HBW.out)).mono ?_
       rintro e' w1 ⟨rfl, hb⟩
       have HB1 := Lib.hid (below_ext HBW.out hb); clear hb
       go_wp2
       go_roundw
       case rel => exact ⟨j + 1, _, by go_num, rfl, by omega, fun _ => HY0.out, by rw [← HDR.out]; exact HREL.out, HB1.out⟩
       case measure => simp [intOf]; omega
     · have hzZ : z = Z := by
         rcases Nat.lt_or_ge j ll with h1 | h1
         · rw [← HREL.out, orE_n _ (fun h0 => hlt ⟨h1, h0⟩)]
         · rw [← HREL.out, List.drop_eq_nil_of_le (by rw [← HLL.out]; exact h1), checkL, orE_r]
       subst hzZ
       have hnot : (j : Int) < (ll : Int) → ¬ z = 0 := fun h1 h0 => hlt ⟨by omega, h0⟩
       clear hlt
       have hcond : ((ll : Int) ≤ (j : Int)) ∨ ((j : Int) < (ll : Int) ∧ ¬ z = 0) := by omega
       clear hnot
       rcases hcond with hcond | ⟨hcond, hcond2⟩
       all_goals
         go_wp2_with fail
         go_meet
         exact ⟨rfl, HBW.out⟩
    case rest =>
    obtain ⟨rfl, hbw2⟩ := hcut
    have HBW2 := Lib.hid hbw2; clear hbw2
    have hzy : Z = 0 → y = 0 := fun h0 => by
      rw [HZ.out] at h0
      by_cases hy0 : y = 0
      · exact hy0
      · rw [orE_n _ hy0] at h0; exact absurd h0 hy0
    have HZY2 := Lib.hid hzy; clear hzy HZ
    go_wp2
    go_loopw [9, 6, 8] (fun i v u wr => ∃ (j : Nat) (z : Int) (last : List UInt8), i = .int .i64 j ∧ v = .int .i64 z ∧ u = .string (bs last) ∧ j ≤ lf ∧ (z = 0 → y = 0) ∧ orE z (checkF (d + 1) last (f.drop j)) = R ∧ Below W0.heap.size W0 wr) (fun i _ _ _ => lf - (intOf i).toNat)
    case atStart => exact ⟨0, Z, [], rfl, rfl, rfl, by omega, HZY2.out, HRZ.out.symm, HBW2.out⟩
    case round =>
    clear HBW HBW2 HRZ HZY2
    obtain ⟨j2, z2, last, rfl, rfl, rfl, hj2, hzy, hrel, hbw⟩ := hrel
    have HZY := Lib.hid hzy; clear hzy
    have HREL := Lib.hid hrel; clear hrel
    have HBW := Lib.hid hbw; clear hbw
    have c5 : wr.cell? ⟨w.heap.size, 5, none⟩ = some (.slice pf lf cf) := (HBK.out.below HBW.out hlt0).cell rfl
    by_cases hlt : j2 < lf ∧ z2 = 0
    · obtain ⟨hlt, hz⟩ := hlt
      have hdI : (d : Int) + 1 ≤ 6 := by have := HD.out (HZY.out hz) (Or.inr (by omega)); omega
      have HY0 := Lib.hid (HZY.out hz); clear HZY
      subst hz
      have hjf : j2 < f.length := by rw [← HLF.out]; exact hlt
      obtain ⟨g, o, cs, hpf, ⟨hxl, hcells⟩, hval⟩ := (HF.out.ext (Below.trans HB0.out (HBW.out.mono (by omega)))) j2 hjf
      have hdrop := checkF_drop (d := d + 1) (last := last) hjf
      have hsz2 := DVal.size_f (k := k) (b := b) (n := n) (s := s) (l := l) f[j2] (List.getElem_mem _)
      generalize f[j2] = p at hval hdrop hsz2 hxl hcells
      obtain ⟨x, v⟩ := p
      simp only [] at hval hdrop hsz2 hxl hcells
      have HS2 := Lib.hid hsz2; clear hsz2
      have HDR := Lib.hid hdrop; clear hdrop
      obtain ⟨k1, b1, n1, s1, l1, f1⟩ := v
      have HV := Lib.hid hval
      obtain ⟨pl1, cl1, pf1, cf1, rfl, hbd, _, _⟩ := hasVal_mk.1 hval
      clear hval
      obtain ⟨e0, e1, e2, e3, e4, e5, e6⟩ := hcells.seven
      clear hcells hbd
      subst hpf
      go_upto_region 12 with (fail)
      generalize hW2 : World.alloc wr _ = W2
      have hblk2 : IsBlk W2 wr.heap.size #[.string (bs x), .int .u8 (k1 : Int), .bool b1, .int .i64 n1, .string (bs s1), .slice pl1 l1.length cl1, .slice pf1 f1.length cf1] 38 := by rw [← hW2]; exact IsBlk.new _ _ _
      have hb2 : Below wr.heap.size wr W2 := by rw [← hW2]; exact (Below.refl _ _).alloc (Nat.le_refl _) _
      have hlt2 : wr.heap.size < W2.heap.size := hblk2.lt
      clear hW2 e0 e1 e2 e3 e4 e5 e6 c5
      have HB2 := Lib.hid hb2; clear hb2
      have d0 : W2.cell? ⟨wr.heap.size, 0, none⟩ = some (.string (bs x)) := hblk2.cell rfl
      have HBK2 := Lib.hid hblk2; clear hblk2
      have hxl2 : x.length ≤ 281474976710656 := by omega
      have HTR := Lib.hid (U8T_ext (U8T_ext HT0.out HBW.out) HB2.out)
      refine mix_start [] (Cls W2) (by kernel_rfl) (Cls.of ((Below.refl _ _).drew)) ?_
      refine mix_flt (by kernel_rfl) [0, 1, 3, 4, 5, 6] 5 _ _ (by kernel_rfl) ?_
      simp only [opsAt, List.map_cons, List.map_nil, List.toList_toArray, List.getD_cons_succ, List.getD_cons_zero]
      unfold Cls
      repeat (go_big_quiet_step (fail))
      refine wpQuiet_nil ?_
      (try rw [← Cls_def])
      refine mix_ch (i := 2) (fuel := 4) (by kernel_rfl) _ rfl (fun w1 hw1 => ?_)
      go_wp2_with (go_at_call 63; refine (name_any x _ hxl2 (U8T_ext HTR.out hw1.below)).mono ?_; rintro e' w' ⟨rfl, hb⟩)
      refine Then.same (hw1.trans hb) ?_
      refine mix_ch (i := 7) (fuel := 3) (by kernel_rfl) _ rfl (fun w1 hw1 => ?_)
      go_wp2_with (go_at_call 60; refine (unless_any _ _ _).mono ?_; rintro e' w' ⟨rfl, rfl⟩)
      refine Then.same (hw1) ?_
      refine mix_ch (i := 8) (fuel := 2) (by kernel_rfl) _ rfl (fun w1 hw1 => ?_)
      go_wp2_with (fail)
      refine Then.alloc hw1 ?_
      have hwa := hw1
      obtain ⟨wa, rfl⟩ : ∃ wo : World, wo = w1 := ⟨_, rfl⟩
      refine mix_ch (i := 9) (fuel := 1) (by kernel_rfl) _ rfl (fun w1 hw1 => ?_)
      go_wp2_with (go_at_call 59; refine (first2_any wa.heap.size _ _ _ _ ((IsBlk.new wa _ _).ext hw1.below)).mono ?_; rintro e' w' ⟨rfl, rfl⟩)
      refine Then.same (hw1) ?_
      refine mix_flt (by kernel_rfl) [10] 0 _ _ (by kernel_rfl) ?_
      simp only [opsAt, List.map_cons, List.map_nil, List.toList_toArray, List.getD_cons_succ, List.getD_cons_zero]
      unfold Cls
      repeat (go_big_quiet_step (fail))
      refine wpQuiet_nil ?_
      (try rw [← Cls_def])
      refine mix_end [] (by kernel_rfl) (fun w1 hw1 => ?_)
      refine wpList_nil ?_
      refine Calm.normal ?_
      obtain ⟨Q, hQ⟩ : ∃ Q, Q = orE (nameE x) (unlessE (gtB x last) 18) := ⟨_, rfl⟩
      have hQ2 : firstE [nameE x, unlessE (!Op.bytesLess (bs x).toList (bs last).toList && !(bs x).toList == (bs last).toList) 18] = Q := by
        rw [hQ, firstE_two, tl_bs, tl_bs, gtB, Bool.not_or]
      rw [hQ2]
      have HQ := Lib.hid hQ; clear hQ hQ2 hb d0
      have hBa : Below wr.heap.size wr w1 := HB2.out.trans ((below_ext (hwa.below.alloc (by have := hwa.below.size; omega) _) hw1.below).mono (by omega))
      have HB1 := Lib.hid (below_ext HBW.out hBa)
      have hblk1 := HBK2.out.below (below_ext (hwa.below.alloc (by have := hwa.below.size; omega) _) hw1.below) hlt2
      have d0 : w1.cell? ⟨wr.heap.size, 0, none⟩ = some (.string (bs x)) := hblk1.cell rfl
      have d1 : w1.cell? ⟨wr.heap.size, 1, none⟩ = some (.int .u8 (k1 : Int)) := hblk1.cell rfl
      have d2 : w1.cell? ⟨wr.heap.size, 2, none⟩ = some (.bool b1) := hblk1.cell rfl
      have d3 : w1.cell? ⟨wr.heap.size, 3, none⟩ = some (.int .i64 n1) := hblk1.cell rfl
      have d4 : w1.cell? ⟨wr.heap.size, 4, none⟩ = some (.string (bs s1)) := hblk1.cell rfl
      have d5 : w1.cell? ⟨wr.heap.size, 5, none⟩ = some (.slice pl1 l1.length cl1) := hblk1.cell rfl
      have d6 : w1.cell? ⟨wr.heap.size, 6, none⟩ = some (.slice pf1 f1.length cf1) := hblk1.cell rfl
      have HK1 := Lib.hid hblk1; clear hblk1
      have HV1 := Lib.hid (HV.out.ext hBa)
      have HT1 := Lib.hid (U8T_ext HT0.out HB1.out)
      clear hBa hw1 hwa
      by_cases hq : Q = 0
      · have hqr : R = orE (checkV (d + 1) (.mk k1 b1 n1 s1 l1 f1)) (checkF (d + 1) x (f.drop (j2 + 1))) := by
          rw [← HREL.out, orE_z, HDR.out, ← HQ.out, hq, orE_z]
        have HQR := Lib.hid hqr; clear hqr HQ
        subst hq
        go_wp2_with fail
        go_at_call 36
        refine (HI.out (.mk k1 b1 n1 s1 l1 f1) (d + 1) _ S _ w1 (by have := HS2.out; have := HM.out; omega) rfl (by omega) HV1.out HT1.out).mono ?_
        rintro e' w2 ⟨rfl, hb⟩
        have HBB := Lib.hid (below_ext HB1.out hb)
        have d0 : w2.cell? ⟨wr.heap.size, 0, none⟩ = some (.string (bs x)) := (HK1.out.ext hb).cell rfl
        clear hb
        go_wp2
        go_roundw
        case rel =>
          exact ⟨j2 + 1, _, x, by go_num, rfl, rfl, by omega, fun _ => HY0.out, HQR.out.symm, HBB.out⟩
        case measure => simp [intOf]; omega
      · have hqr : R = Q := by rw [← HREL.out, orE_z, HDR.out, ← HQ.out, orE_n _ hq]
        have HQR := Lib.hid hqr; clear hqr HQ
        go_wp2
        go_roundw
        case rel => exact ⟨j2 + 1, Q, x, by go_num, rfl, rfl, by omega, fun _ => HY0.out, by rw [HQR.out, orE_n _ hq], HB1.out⟩
        case measure => simp [intOf]; omega
    · have hzR : z2 = R := by
        rcases Nat.lt_or_ge j2 lf with h1 | h1
        · rw [← HREL.out, orE_n _ (fun h0 => hlt ⟨h1, h0⟩)]
        · rw [← HREL.out, List.drop_eq_nil_of_le (by rw [← HLF.out]; exact h1), checkF, orE_r]
      subst hzR
      have hcond : ((lf : Int) ≤ (j2 : Int)) ∨ ((j2 : Int) < (lf : Int) ∧ ¬ z2 = 0) := by omega
      clear hlt HREL
      rcases hcond with hcond | ⟨hcond, hcond2⟩
      all_goals
        go_wp2
        go_ret
        exact ⟨rfl, Below.trans HB0.out (HBW.out.mono (by omega))⟩
theorem check_all : ∀ (m : Nat) (v : DVal) (d : Nat) (dI : Int) (S : Nat → Prop) (cs : List Value) (w : World), SizeOf.sizeOf v < m → dI = (d : Int) → d ≤ 6 → HasVal S w v cs → U8T w →
    Calls Tryd.prog 36 #[.agg cs.toArray, .int .i64 dI] w fun e' w' => e' = .returned (.int .i64 (checkV d v)) ∧ Below w.heap.size w w' := by
  intro m
  induction m with
  | zero => intro v d dI S cs w h; omega
  | succ m ih =>
    intro v d dI S cs w h hdI hd hv hT
    subst hdI
    obtain ⟨k, b, n, s, l, f⟩ := v
    obtain ⟨pl, cl, pf, cf, rfl, hb, hl, hf⟩ := hasVal_mk.1 hv
    exact check_step m ih k b n s l f h d hd S pl cl pf cf w hb.1 (by omega) (by omega) (by omega) hl hf hT
/-- Why a value is not right. -/
theorem check_any (v : DVal) (S : Nat → Prop) (cs : List Value) (w : World) (hv : HasVal S w v cs) (hT : U8T w) :
    Calls Tryd.prog 18 #[.agg cs.toArray] w fun e' w' => e' = .returned (.int .i64 (checkV 0 v)) ∧ Below w.heap.size w w' := by
  have hsz := Nat.lt_succ_self (SizeOf.sizeOf v)
  have HV := Lib.hid hv
  obtain ⟨k, b, n, s, l, f⟩ := v
  obtain ⟨pl, cl, pf, cf, rfl, hb, hl, hf⟩ := hasVal_mk.1 hv
  clear hv hb hl hf
  have HT := Lib.hid hT; clear hT
  have HS := Lib.hid hsz; clear hsz
  obtain ⟨R, hR⟩ : ∃ R, R = checkV 0 (.mk k b n s l f) := ⟨_, rfl⟩
  rw [← hR]
  have HR := Lib.hid hR; clear hR
  show Calls Tryd.prog 18 #[.agg #[.int .u8 (k : Int), .bool b, .int .i64 n, .string (bs s), .slice pl l.length cl, .slice pf f.length cf]] w _
  go_enter Tryd.func18, Tryd.ntmps18
  go_wp2_with fail
  go_at_call 36
  have hb1 : Below w.heap.size w (w.alloc (.cells #[.int .u8 (k : Int), .bool b, .int .i64 n, .string (bs s), .slice pl l.length cl, .slice pf f.length cf] 26)) := (Below.refl _ _).alloc (Nat.le_refl _) _
  refine (check_all _ (.mk k b n s l f) 0 _ S _ _ HS.out rfl (by omega) (HV.out.ext hb1) (U8T_ext HT.out hb1)).mono ?_
  rintro e' w1 ⟨he, hb⟩
  rw [← HR.out] at he
  subst he
  have HB := Lib.hid (below_ext hb1 hb); clear hb hb1
  go_wp2
  go_ret
  exact ⟨rfl, HB.out⟩
end Go.Proofs.YthcojmpigdojoaaDoor
