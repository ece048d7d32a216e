/- The document's answer for peaks: ones, digests, right. Conditions: texts no longer than 2^40 bytes. -/
import Derived.Test.YtfnlehnhcekpkaaDoorMkQ
set_option linter.unusedVariables false
set_option linter.unusedSimpArgs false
namespace Go.Proofs.YtfnlehnhcekpkaaDoor
open Go Go.RowKit Go.BigFrame
set_option maxRecDepth 100000

theorem onesF_zero : ∀ f, onesF f 0 = 0
  | 0 => rfl
  | f + 1 => by rw [onesF, Nat.zero_div, onesF_zero f]
theorem rones_any (c : Nat) (hc : c ≤ 1024) (w : World) : Calls Tryd.prog 56 #[.int .i64 (c : Int)] w fun e' w' => e' = .returned (.int .i64 (onesN c : Int)) ∧ w = w' := by
  obtain ⟨R, hR⟩ : ∃ R, R = onesN c := ⟨_, rfl⟩
  rw [← hR]
  have HR := Lib.hid hR
  clear hR
  go_enter Tryd.func56, Tryd.ntmps56
  go_wp2
  go_loop [0, 3] (fun a b => ∃ n k f : Nat, a = .int .i64 (n : Int) ∧ b = .int .i64 (k : Int) ∧ n ≤ 1024 ∧ k + f ≤ 12 ∧ n < 2 ^ f ∧ k + onesF f n = R) (fun a _ => (intOf a).toNat)
  case atStart => exact ⟨c, 0, 12, rfl, rfl, hc, by omega, by omega, by rw [HR.out]; unfold onesN; omega⟩
  case round =>
  obtain ⟨n, k, f, rfl, rfl, hn, hkf, hlt, hrel⟩ := hrel
  have HREL := Lib.hid hrel
  clear hrel
  by_cases h0 : 0 < n
  · have h0I : (0 : Int) < (n : Int) := by omega
    obtain ⟨f, rfl⟩ : ∃ g, f = g + 1 := ⟨f - 1, by cases f with
      | zero => simp at hlt; omega
      | succ f => rfl⟩
    rw [Nat.pow_succ] at hlt
    have hrel2 : (k + n % 2) + onesF f (n / 2) = R := by rw [← HREL.out, onesF]; omega
    have HREL2 := Lib.hid hrel2
    clear hrel2
    go_wp2
    go_round
    case rel => exact ⟨n / 2, k + n % 2, f, by go_num, by go_num, by omega, by omega, by omega, HREL2.out⟩
    case measure => simp [intOf]; omega
  · obtain rfl : n = 0 := by omega
    have hr : k = R := by rw [← HREL.out, onesF_zero]; rfl
    subst hr
    go_wp2
    go_ret
    exact ⟨rfl, rfl⟩
theorem rdigests_any (l : List (List UInt8)) (S : Nat → Prop) (p : Option Addr) (c : Nat) (w : World) (hl : HasS S w p l) (hn : l.length ≤ 1099511627776) (hs : ∀ s ∈ l, s.length ≤ 1099511627776) :
    Calls Tryd.prog 57 #[.slice p l.length c] w fun e' w' => e' = .returned (.bool (dig32 l)) ∧ w = w' := by
  obtain ⟨R, hR⟩ : ∃ R, R = dig32 l := ⟨_, rfl⟩
  rw [← hR]
  obtain ⟨n, hnl⟩ : ∃ n, n = l.length := ⟨_, rfl⟩
  rw [← hnl] at hn ⊢
  have HN := Lib.hid hnl
  have HL := Lib.hid hl
  have HS := Lib.hid hs
  have HR := Lib.hid hR
  clear hR hnl hl hs
  go_enter Tryd.func57, Tryd.ntmps57
  go_wp2
  go_loop [7] (fun i => ∃ j : Nat, i = .int .i64 j ∧ j ≤ n ∧ dig32 (l.drop j) = R) (fun i => n - (intOf i).toNat)
  case atStart => exact ⟨0, rfl, by omega, HR.out.symm⟩
  case round =>
  obtain ⟨j, rfl, hj, hrel⟩ := hrel
  have HREL := Lib.hid hrel
  clear hrel
  by_cases hlt : j < n
  · have hj1 : j < l.length := by rw [← HN.out]; exact hlt
    obtain ⟨g, o, hp, _, hg, hc⟩ := HL.out j hj1
    have hdr := dig32_drop hj1
    have hsl := HS.out _ (List.getElem_mem hj1)
    generalize l[j] = s at hc hdr hsl
    subst hp
    have HDR := Lib.hid hdr
    have hsz := bs_size s
    clear hdr
    by_cases h32 : s.length = 32
    · have hrel2 : dig32 (l.drop (j + 1)) = R := by rw [← HREL.out, HDR.out, h32]; rfl
      have HREL2 := Lib.hid hrel2
      have hb : ((s.length : Int) != 32) = false := by rw [h32]; rfl
      clear hrel2 h32
      go_wp2
      go_round
      case rel => exact ⟨j + 1, by go_num, by omega, HREL2.out⟩
      case measure => simp [intOf]; omega
    · have hr : R = false := by rw [← HREL.out, HDR.out, show (s.length == 32) = false by rw [beq_eq_false_iff_ne]; exact h32]; rfl
      have HS2 := Lib.hid hr
      have hb : ((s.length : Int) != 32) = true := by rw [bne_iff_ne]; omega
      clear hr h32
      go_wp2
      go_ret
      exact ⟨by rw [HS2.out]; rfl, rfl⟩
  · have hr : R = true := by rw [← HREL.out, List.drop_eq_nil_of_le (by rw [← HN.out]; omega)]; rfl
    have HS2 := Lib.hid hr
    clear hr
    go_wp2
    go_ret
    exact ⟨by rw [HS2.out]; rfl, rfl⟩
set_option maxHeartbeats 4000000 in
theorem rpeaks_any (c : Int) (tops : List (List UInt8)) (S : Nat → Prop) (p : Option Addr) (cap : Nat) (w : World) (hs : HasS S w p tops) (hn : tops.length ≤ 1099511627776) (hts : ∀ s ∈ tops, s.length ≤ 1099511627776) :
    Calls Tryd.prog 35 #[.agg #[.int .i64 c, .slice p tops.length cap]] w fun e' w' => e' = .returned (.bool (peaksB c tops)) ∧ Below w.heap.size w w' := by
  have HD : Hid (∀ w', Below w.heap.size w w' → Calls Tryd.prog 57 #[.slice p tops.length cap] w' fun e' w'' => e' = .returned (.bool (dig32 tops)) ∧ w' = w'') := Lib.hid (fun w' hb => rdigests_any tops S p cap w' (hs.ext hb) hn hts)
  obtain ⟨G, hG⟩ : ∃ G, G = dig32 tops := ⟨_, rfl⟩
  obtain ⟨R, hR⟩ : ∃ R, R = peaksB c tops := ⟨_, rfl⟩
  rw [← hR]
  unfold peaksB at hR
  rw [← hG] at hR HD
  obtain ⟨n, hnl⟩ : ∃ n, n = tops.length := ⟨_, rfl⟩
  rw [← hnl] at hR HD hn ⊢
  have HR := Lib.hid hR
  clear hR hG hs hts hnl
  have hW : IsBlk (w.alloc (.cells #[.int .i64 c, .slice p n cap] 24)) w.heap.size #[.int .i64 c, .slice p n cap] 24 := IsBlk.new _ _ _
  have hbw : Below w.heap.size w (w.alloc (.cells #[.int .i64 c, .slice p n cap] 24)) := (Below.refl _ _).alloc (Nat.le_refl _) _
  by_cases h0 : 0 ≤ c
  case neg =>
    have d0 : decide (0 ≤ c) = false := decide_eq_false h0
    have HR2 : Hid (R = false) := Lib.hid (by rw [HR.out, d0]; rfl)
    clear HR
    go_enter Tryd.func35, Tryd.ntmps35
    go_upto_region 1 with (fail)
    generalize hW1 : World.alloc w _ = W1 at hW hbw
    clear hW1
    have hlt := hW.lt
    have x0 := hW.cell (i := 0) rfl
    have x1 := hW.cell (i := 1) rfl
    have HB := Lib.hid hbw
    clear hW hbw
    refine mixB_start [] (Cls W1) (by kernel_rfl) (Cls.of ((Below.refl _ _).drew)) (fun hCw => ?_)
    refine mixB_flt (by kernel_rfl) [0, 1, 2, 3, 4, 5, 6, 7, 8, 9, 10, 11, 12, 13] 9 _ _ hCw (by kernel_rfl) ?_
    simp only [opsAt, List.map_cons, List.map_nil, List.toList_toArray, List.getD_cons_succ, List.getD_cons_zero]
    unfold Cls
    repeat (go_big_quiet_step (fail))
    refine wpQuiet_nil ?_
    (try rw [← Cls_def])
    refine mixB_ch (i := 14) (fuel := 8) (by kernel_rfl) (by kernel_rfl) ?_
    simp only [opsAt, List.map_cons, List.map_nil, List.toList_toArray, List.getD_cons_succ, List.getD_cons_zero]
    go_wp2_with (go_at_call 56; fail)
    refine ThenB.mk (hCw) (fun hCw => ?_)
    refine mixB_flt (by kernel_rfl) [15, 16, 17, 18, 19] 3 _ _ hCw (by kernel_rfl) ?_
    simp only [opsAt, List.map_cons, List.map_nil, List.toList_toArray, List.getD_cons_succ, List.getD_cons_zero]
    unfold Cls
    repeat (go_big_quiet_step (fail))
    refine wpQuiet_nil ?_
    (try rw [← Cls_def])
    refine mixB_ch (i := 20) (fuel := 2) (by kernel_rfl) (by kernel_rfl) ?_
    simp only [opsAt, List.map_cons, List.map_nil, List.toList_toArray, List.getD_cons_succ, List.getD_cons_zero]
    go_wp2_with (go_at_call 57; fail)
    refine ThenB.mk (hCw) (fun hCw => ?_)
    refine mixB_flt (by kernel_rfl) [21, 22] 0 _ _ hCw (by kernel_rfl) ?_
    simp only [opsAt, List.map_cons, List.map_nil, List.toList_toArray, List.getD_cons_succ, List.getD_cons_zero]
    unfold Cls
    repeat (go_big_quiet_step (fail))
    refine wpQuiet_nil ?_
    (try rw [← Cls_def])
    refine mixB_end [] (by kernel_rfl) ?_
    refine wpList_nil ?_
    refine Calm.normal ?_
    have HB2 := Lib.hid (HB.out.trans (hCw.below.mono HB.out.size))
    go_wp2
    go_ret
    exact ⟨by rw [HR2.out]; rfl, HB2.out⟩
  have d0 : decide (0 ≤ c) = true := decide_eq_true h0
  by_cases h1 : c ≤ 1024
  case neg =>
    have d1 : decide (c ≤ 1024) = false := decide_eq_false h1
    have HR2 : Hid (R = false) := Lib.hid (by rw [HR.out, d0, d1]; rfl)
    clear HR
    go_enter Tryd.func35, Tryd.ntmps35
    go_upto_region 1 with (fail)
    generalize hW1 : World.alloc w _ = W1 at hW hbw
    clear hW1
    have hlt := hW.lt
    have x0 := hW.cell (i := 0) rfl
    have x1 := hW.cell (i := 1) rfl
    have HB := Lib.hid hbw
    clear hW hbw
    refine mixB_start [] (Cls W1) (by kernel_rfl) (Cls.of ((Below.refl _ _).drew)) (fun hCw => ?_)
    refine mixB_flt (by kernel_rfl) [0, 1, 2, 3, 4, 5, 6, 7, 8, 9, 10, 11, 12, 13] 9 _ _ hCw (by kernel_rfl) ?_
    simp only [opsAt, List.map_cons, List.map_nil, List.toList_toArray, List.getD_cons_succ, List.getD_cons_zero]
    unfold Cls
    repeat (go_big_quiet_step (fail))
    refine wpQuiet_nil ?_
    (try rw [← Cls_def])
    refine mixB_ch (i := 14) (fuel := 8) (by kernel_rfl) (by kernel_rfl) ?_
    simp only [opsAt, List.map_cons, List.map_nil, List.toList_toArray, List.getD_cons_succ, List.getD_cons_zero]
    go_wp2_with (go_at_call 56; fail)
    refine ThenB.mk (hCw) (fun hCw => ?_)
    refine mixB_flt (by kernel_rfl) [15, 16, 17, 18, 19] 3 _ _ hCw (by kernel_rfl) ?_
    simp only [opsAt, List.map_cons, List.map_nil, List.toList_toArray, List.getD_cons_succ, List.getD_cons_zero]
    unfold Cls
    repeat (go_big_quiet_step (fail))
    refine wpQuiet_nil ?_
    (try rw [← Cls_def])
    refine mixB_ch (i := 20) (fuel := 2) (by kernel_rfl) (by kernel_rfl) ?_
    simp only [opsAt, List.map_cons, List.map_nil, List.toList_toArray, List.getD_cons_succ, List.getD_cons_zero]
    go_wp2_with (go_at_call 57; fail)
    refine ThenB.mk (hCw) (fun hCw => ?_)
    refine mixB_flt (by kernel_rfl) [21, 22] 0 _ _ hCw (by kernel_rfl) ?_
    simp only [opsAt, List.map_cons, List.map_nil, List.toList_toArray, List.getD_cons_succ, List.getD_cons_zero]
    unfold Cls
    repeat (go_big_quiet_step (fail))
    refine wpQuiet_nil ?_
    (try rw [← Cls_def])
    refine mixB_end [] (by kernel_rfl) ?_
    refine wpList_nil ?_
    refine Calm.normal ?_
    have HB2 := Lib.hid (HB.out.trans (hCw.below.mono HB.out.size))
    go_wp2
    go_ret
    exact ⟨by rw [HR2.out]; rfl, HB2.out⟩
  obtain ⟨k, rfl⟩ : ∃ k : Nat, c = (k : Int) := ⟨c.toNat, by omega⟩
  have d1 : decide ((k : Int) ≤ 1024) = true := decide_eq_true h1
  have hk : k ≤ 1024 := by omega
  obtain ⟨on, hon⟩ : ∃ on, on = onesN k := ⟨_, rfl⟩
  have HR2 : Hid (R = (decide (n = on) && G)) := Lib.hid (by rw [HR.out, d0, d1, hon]; rfl)
  have HON := Lib.hid hon
  clear HR hon d0 d1 h0 h1
  have hkI : (k : Int) ≤ 1024 := by omega
  by_cases h2 : n = on
  case neg =>
    have d2 : ((n : Int) == (on : Int)) = false := by rw [beq_eq_false_iff_ne]; omega
    have HR3 := Lib.hid HR2.out
    clear HR2
    have HR2 : Hid (R = false) := Lib.hid (by rw [HR3.out, decide_eq_false h2]; rfl)
    clear h2 HR3
    go_enter Tryd.func35, Tryd.ntmps35
    go_upto_region 1 with (fail)
    generalize hW1 : World.alloc w _ = W1 at hW hbw
    clear hW1
    have hlt := hW.lt
    have x0 := hW.cell (i := 0) rfl
    have x1 := hW.cell (i := 1) rfl
    have HB := Lib.hid hbw
    clear hW hbw
    refine mixB_start [] (Cls W1) (by kernel_rfl) (Cls.of ((Below.refl _ _).drew)) (fun hCw => ?_)
    refine mixB_flt (by kernel_rfl) [0, 1, 2, 3, 4, 5, 6, 7, 8, 9, 10, 11, 12, 13] 9 _ _ hCw (by kernel_rfl) ?_
    simp only [opsAt, List.map_cons, List.map_nil, List.toList_toArray, List.getD_cons_succ, List.getD_cons_zero]
    unfold Cls
    repeat (go_big_quiet_step (fail))
    refine wpQuiet_nil ?_
    (try rw [← Cls_def])
    refine mixB_ch (i := 14) (fuel := 8) (by kernel_rfl) (by kernel_rfl) ?_
    simp only [opsAt, List.map_cons, List.map_nil, List.toList_toArray, List.getD_cons_succ, List.getD_cons_zero]
    go_wp2_with (go_at_call 56; go_at_call 56; refine (rones_any k hk _).mono ?_; rintro e' w2 ⟨he, rfl⟩; rw [← HON.out] at he; subst he)
    refine ThenB.mk (hCw) (fun hCw => ?_)
    refine mixB_flt (by kernel_rfl) [15, 16, 17, 18, 19] 3 _ _ hCw (by kernel_rfl) ?_
    simp only [opsAt, List.map_cons, List.map_nil, List.toList_toArray, List.getD_cons_succ, List.getD_cons_zero]
    unfold Cls
    repeat (go_big_quiet_step (fail))
    refine wpQuiet_nil ?_
    (try rw [← Cls_def])
    refine mixB_ch (i := 20) (fuel := 2) (by kernel_rfl) (by kernel_rfl) ?_
    simp only [opsAt, List.map_cons, List.map_nil, List.toList_toArray, List.getD_cons_succ, List.getD_cons_zero]
    go_wp2_with (go_at_call 57; fail)
    refine ThenB.mk (hCw) (fun hCw => ?_)
    refine mixB_flt (by kernel_rfl) [21, 22] 0 _ _ hCw (by kernel_rfl) ?_
    simp only [opsAt, List.map_cons, List.map_nil, List.toList_toArray, List.getD_cons_succ, List.getD_cons_zero]
    unfold Cls
    repeat (go_big_quiet_step (fail))
    refine wpQuiet_nil ?_
    (try rw [← Cls_def])
    refine mixB_end [] (by kernel_rfl) ?_
    refine wpList_nil ?_
    refine Calm.normal ?_
    have HB2 := Lib.hid (HB.out.trans (hCw.below.mono HB.out.size))
    go_wp2
    go_ret
    exact ⟨by rw [HR2.out]; rfl, HB2.out⟩
  have HR3 := Lib.hid HR2.out
  clear HR2
  have HR2 : Hid (R = G) := Lib.hid (by rw [HR3.out, decide_eq_true h2]; rfl)
  subst h2
  clear HR3
  go_enter Tryd.func35, Tryd.ntmps35
  go_upto_region 1 with (fail)
  generalize hW1 : World.alloc w _ = W1 at hW hbw
  clear hW1
  have hlt := hW.lt
  have x0 := hW.cell (i := 0) rfl
  have x1 := hW.cell (i := 1) rfl
  have HB := Lib.hid hbw
  clear hW hbw
  refine mixB_start [] (Cls W1) (by kernel_rfl) (Cls.of ((Below.refl _ _).drew)) (fun hCw => ?_)
  refine mixB_flt (by kernel_rfl) [0, 1, 2, 3, 4, 5, 6, 7, 8, 9, 10, 11, 12, 13] 9 _ _ hCw (by kernel_rfl) ?_
  simp only [opsAt, List.map_cons, List.map_nil, List.toList_toArray, List.getD_cons_succ, List.getD_cons_zero]
  unfold Cls
  repeat (go_big_quiet_step (fail))
  refine wpQuiet_nil ?_
  (try rw [← Cls_def])
  refine mixB_ch (i := 14) (fuel := 8) (by kernel_rfl) (by kernel_rfl) ?_
  simp only [opsAt, List.map_cons, List.map_nil, List.toList_toArray, List.getD_cons_succ, List.getD_cons_zero]
  go_wp2_with (go_at_call 56; go_at_call 56; refine (rones_any k hk _).mono ?_; rintro e' w2 ⟨he, rfl⟩; rw [← HON.out] at he; subst he)
  refine ThenB.mk (hCw) (fun hCw => ?_)
  refine mixB_flt (by kernel_rfl) [15, 16, 17, 18, 19] 3 _ _ hCw (by kernel_rfl) ?_
  simp only [opsAt, List.map_cons, List.map_nil, List.toList_toArray, List.getD_cons_succ, List.getD_cons_zero]
  unfold Cls
  repeat (go_big_quiet_step (fail))
  refine wpQuiet_nil ?_
  (try rw [← Cls_def])
  refine mixB_ch (i := 20) (fuel := 2) (by kernel_rfl) (by kernel_rfl) ?_
  simp only [opsAt, List.map_cons, List.map_nil, List.toList_toArray, List.getD_cons_succ, List.getD_cons_zero]
  go_wp2_with (go_at_call 57; go_at_call 57; refine (HD.out _ (HB.out.trans (hCw.below.mono HB.out.size))).mono ?_; rintro e' w3 ⟨rfl, rfl⟩)
  refine ThenB.mk (hCw) (fun hCw => ?_)
  refine mixB_flt (by kernel_rfl) [21, 22] 0 _ _ hCw (by kernel_rfl) ?_
  simp only [opsAt, List.map_cons, List.map_nil, List.toList_toArray, List.getD_cons_succ, List.getD_cons_zero]
  unfold Cls
  repeat (go_big_quiet_step (fail))
  refine wpQuiet_nil ?_
  (try rw [← Cls_def])
  refine mixB_end [] (by kernel_rfl) ?_
  refine wpList_nil ?_
  refine Calm.normal ?_
  have HB2 := Lib.hid (HB.out.trans (hCw.below.mono HB.out.size))
  go_wp2
  go_ret
  exact ⟨by rw [HR2.out]; rfl, HB2.out⟩
end Go.Proofs.YtfnlehnhcekpkaaDoor
