/- The document's answer for trees: Growth. Conditions: texts no longer than 2^40 bytes, at most 2^40. -/
import Derived.Test.YtfnlehnhcekpkaaDoorMkF
set_option linter.unusedVariables false
set_option linter.unusedSimpArgs false
namespace Go.Proofs.YtfnlehnhcekpkaaDoor
open Go Go.RowKit Go.BigFrame
set_option maxRecDepth 100000

def GrowOk (n : Nat) : Prop := ∀ (texts : List (List UInt8)) (a i : Nat) (b : Bool) (S : Nat → Prop) (p : Option Addr) (c : Nat) (w : World), b = decide (a = 0) → a + n ≤ texts.length → 0 < i → i ≤ n → n ≤ c → texts.length ≤ 1099511627776 → HasS S w p (seg texts a n) → (∀ s ∈ texts, s.length ≤ 1099511627776) →
  Calls Tryd.prog 50 #[.int .i64 (i : Int), .slice p n c, .bool b] w fun e' w' => ∃ v, e' = .returned v ∧ w'.ownsRow w.heap.size 9 1 v (growD texts a n (a + i)).length (strsV (growD texts a n (a + i)).reverse) ∧ Below w.heap.size w w'
set_option maxHeartbeats 8000000 in
theorem grow_step (n : Nat) (ih : ∀ m, m < n → GrowOk m) : GrowOk n := by
  intro texts a i fl S p c w hfl han hi0 hin hcn htl hs hts
  obtain ⟨D, hD⟩ : ∃ D, D = growD texts a n (a + i) := ⟨_, rfl⟩
  rw [← hD]
  have hDl : D.length ≤ 1099511627776 := by rw [hD]; exact Nat.le_trans (growD_length texts _ a _ _ (Nat.le_refl _) (by omega) (by omega) (by omega)) (by omega)
  have HD := Lib.hid hD
  have HS := Lib.hid hs
  have HTS := Lib.hid hts
  have IH := Lib.hid ih
  have hsl := seg_length (l := texts) (a := a) (n := n) han
  have HSL := Lib.hid hsl
  have HFL := Lib.hid hfl
  clear ih hts hD hs hsl hfl
  by_cases h1 : i = n
  · subst h1
    have HD2 : Hid (D = if 0 < a then [rootL (seg texts a i)] else []) := Lib.hid (by rw [HD.out, growD_end (Nat.le_refl _) (by omega)])
    by_cases h0 : a = 0
    · obtain rfl : fl = true := by rw [HFL.out]; exact decide_eq_true h0
      have HD3 : Hid (D = []) := Lib.hid (by rw [HD2.out, if_neg (by omega)])
      clear HD2 h0
      go_enter Tryd.func50, Tryd.ntmps50
      go_wp2
      go_ret
      exact ⟨_, rfl, by rw [HD3.out]; exact ⟨rfl, Or.inl ⟨rfl, rfl⟩⟩, Below.refl _ _⟩
    · obtain rfl : fl = false := by rw [HFL.out]; exact decide_eq_false h0
      have HD3 : Hid (D = [rootL (seg texts a i)]) := Lib.hid (by rw [HD2.out, if_pos (by omega)])
      have HRT : Hid (Calls Tryd.prog 27 #[.slice p i c] w fun e' w' => e' = .returned (.string (bs (rootL (seg texts a i)))) ∧ Below w.heap.size w w') := Lib.hid (by
        have hroot := rroot_any (seg texts a i) S p c w (by rw [HSL.out]; omega) (by rw [HSL.out]; omega) HS.out (fun s hs => HTS.out s (seg_mem hs))
        rwa [HSL.out] at hroot)
      clear HD2 h0
      generalize rootL (seg texts a i) = R at HD3 HRT
      go_enter Tryd.func50, Tryd.ntmps50
      go_wp2_with fail
      go_at_call 27
      refine HRT.out.mono ?_
      rintro e' w1 ⟨rfl, hb⟩
      have HB := Lib.hid hb
      clear hb
      go_wp2
      go_ret
      refine ⟨_, rfl, ?_, HB.out.alloc HB.out.size _⟩
      rw [HD3.out]
      exact own_lit (cs := [.string (bs R)]) (IsBlk.new _ _ _) HB.out.size rfl (by decide)
  have hi3 : i < n := by omega
  have q0 : ((i : Int) == (n : Int)) = false := by rw [beq_eq_false_iff_ne]; omega
  have h2 : 2 ≤ n := by omega
  have hn40 : n ≤ 1099511627776 := by omega
  obtain ⟨g, o, rfl⟩ := HS.out.at0 (by rw [HSL.out]; omega)
  obtain ⟨ha, hb, hc1⟩ := halfN_fits h2 hn40
  obtain ⟨k, hk⟩ : ∃ k, k = halfN n := ⟨_, rfl⟩
  have HK := Lib.hid hk
  rw [← hk] at ha hb hc1
  have hi1 : (k : Int) ≤ (n : Int) := by omega
  have hi2 : (k : Int) ≤ (c : Int) := by omega
  have HT : Hid (HasS S w (some ⟨g, o, none⟩) (seg texts a k)) := Lib.hid (by have h := HS.out.take k; rwa [seg_take (by omega)] at h)
  have HR : Hid (HasS S w (some ⟨g, o + k, none⟩) (seg texts (a + k) (n - k))) := Lib.hid (by have h := HS.out.drop k; rwa [seg_drop] at h)
  have hlT := seg_length (l := texts) (a := a) (n := k) (by omega)
  have hlR := seg_length (l := texts) (a := a + k) (n := n - k) (by omega)
  have HLT := Lib.hid hlT
  have HLR := Lib.hid hlR
  clear hk h1 hlT hlR
  by_cases hik : i ≤ k
  · have hltI : (i : Int) ≤ (k : Int) := by omega
    have HD2 : Hid (D = rootL (seg texts (a + k) (n - k)) :: growD texts a k (a + i)) := Lib.hid (by rw [HD.out, HK.out]; exact growD_left hn40 (by omega) (by omega) (by rw [← HK.out]; omega))
    have hpl : (growD texts a k (a + i)).length ≤ 1099511627776 := Nat.le_trans (growD_length texts _ a _ _ (Nat.le_refl _) (by omega) (by omega) (by omega)) (by omega)
    clear hik
    go_enter Tryd.func50, Tryd.ntmps50
    go_wp2_with fail
    go_at_call 51
    refine (rhalf_any n h2 hn40 _).mono ?_
    rintro e' w2 ⟨he, rfl⟩
    rw [← HK.out] at he
    subst he
    go_upto_region 7 with (fail)
    refine mixB_start [9, 10, 11, 12] (Cls w) (by kernel_rfl) (Cls.of ((Below.refl _ _).drew)) (fun hCw => ?_)
    refine mixB_flt (by kernel_rfl) [0, 1, 2, 3, 4, 6, 7, 8] 5 _ _ hCw (by kernel_rfl) ?_
    simp only [opsAt, List.map_cons, List.map_nil, List.toList_toArray, List.getD_cons_succ, List.getD_cons_zero]
    unfold Cls
    repeat (go_big_quiet_step (fail))
    refine wpQuiet_nil ?_
    (try rw [← Cls_def])
    refine mixB_ch (i := 5) (fuel := 4) (by kernel_rfl) (by kernel_rfl) ?_
    simp only [opsAt, List.map_cons, List.map_nil, List.toList_toArray, List.getD_cons_succ, List.getD_cons_zero]
    go_wp2_with (go_at_call 50; refine (IH.out k hb texts a i fl S _ c _ HFL.out (by omega) (by omega) (by omega) (by omega) htl (HT.out.ext hCw.below) HTS.out).mono ?_; rintro e' w3 ⟨v, rfl, hown, hb3⟩)
    refine ThenB.mk (hCw.trans hb3) (fun hCw => ?_)
    refine mixB_end [9, 10, 11, 12] (by kernel_rfl) ?_
    simp only [opsAt, List.map_cons, List.map_nil, List.toList_toArray, List.getD_cons_succ, List.getD_cons_zero]
    have HB3 := Lib.hid hCw.below
    have hsz3 := hCw.below.size
    have HO3 := Lib.hid hown
    clear hb3 hown
    go_wp2_with fail
    go_at_call 27
    have hroot := rroot_any (seg texts (a + k) (n - k)) S (some ⟨g, o + k, none⟩) (c - k) w3 (by rw [HLR.out]; omega) (by rw [HLR.out]; omega) (HR.out.ext HB3.out) (fun s hs => HTS.out s (seg_mem hs))
    rw [HLR.out] at hroot
    refine hroot.mono ?_
    clear hroot
    rintro e' w4 ⟨rfl, hb4⟩
    obtain ⟨R, hR⟩ : ∃ R, R = rootL (seg texts (a + k) (n - k)) := ⟨_, rfl⟩
    rw [← hR]
    have HDR : Hid (D = R :: growD texts a k (a + i)) := Lib.hid (by rw [HD2.out, hR])
    have HNEW := Lib.hid (own_alloc (own_ext HO3.out hb4) (.cells #[.string (bs R)] 9))
    have HB4 := Lib.hid (HB3.out.trans (hb4.mono hsz3))
    have hsz4 := HB4.out.size
    clear hR hb4
    go_wp2_with (at_builtin; refine push_at w.heap.size rfl _ _ 22 9 (.string (bs [])) 16 rfl Tryd.underlying22 (by kernel_rfl) rfl (by decide) _ _ _ HNEW.out w4.heap.size 1 [.string (bs R)] (IsBlk.new _ _ _) rfl rfl rfl (by simp [Value.oneCell']) (by simp; omega) (by omega) ?_)
    intro v1 w5 hown hg
    have HO5 := Lib.hid (snoc_row HDR.out hown)
    have HB5 := Lib.hid (below_grown (HB4.out.alloc hsz4 _) hg (by simp; omega) (fun j hj => (HNEW.out.lt j hj).1))
    clear hown hg
    go_wp2
    refine Calm.normal ?_
    go_wp2
    go_ret
    exact ⟨_, rfl, HO5.out, HB5.out⟩
  · have hltI : (k : Int) < (i : Int) := by omega
    have HD2 : Hid (D = rootL (seg texts a k) :: growD texts (a + k) (n - k) (a + i)) := Lib.hid (by rw [HD.out, HK.out]; exact growD_right hn40 (by omega) (by omega) (by rw [← HK.out]; omega))
    have hpl : (growD texts (a + k) (n - k) (a + k + (i - k))).length ≤ 1099511627776 := Nat.le_trans (growD_length texts _ (a + k) _ _ (Nat.le_refl _) (by omega) (by omega) (by omega)) (by omega)
    clear hik
    go_enter Tryd.func50, Tryd.ntmps50
    go_wp2_with fail
    go_at_call 51
    refine (rhalf_any n h2 hn40 _).mono ?_
    rintro e' w2 ⟨he, rfl⟩
    rw [← HK.out] at he
    subst he
    go_upto_region 8 with (fail)
    refine mixB_start [10, 11, 12, 13] (Cls w) (by kernel_rfl) (Cls.of ((Below.refl _ _).drew)) (fun hCw => ?_)
    refine mixB_flt (by kernel_rfl) [0, 1, 2, 3, 4, 5, 7, 8, 9] 5 _ _ hCw (by kernel_rfl) ?_
    simp only [opsAt, List.map_cons, List.map_nil, List.toList_toArray, List.getD_cons_succ, List.getD_cons_zero]
    unfold Cls
    repeat (go_big_quiet_step (fail))
    refine wpQuiet_nil ?_
    (try rw [← Cls_def])
    refine mixB_ch (i := 6) (fuel := 4) (by kernel_rfl) (by kernel_rfl) ?_
    simp only [opsAt, List.map_cons, List.map_nil, List.toList_toArray, List.getD_cons_succ, List.getD_cons_zero]
    go_wp2_with (go_at_call 50; have h6 := IH.out (n - k) (by omega) texts (a + k) (i - k) false S _ (c - k) _ (decide_eq_false (by omega)).symm (by omega) (by omega) (by omega) (by omega) htl (HR.out.ext hCw.below) HTS.out; rw [show ((i - k : Nat) : Int) = (i : Int) - (k : Int) by omega] at h6; refine (h6).mono ?_; clear h6; rintro e' w3 ⟨v, rfl, hown, hb3⟩)
    refine ThenB.mk (hCw.trans hb3) (fun hCw => ?_)
    refine mixB_end [10, 11, 12, 13] (by kernel_rfl) ?_
    simp only [opsAt, List.map_cons, List.map_nil, List.toList_toArray, List.getD_cons_succ, List.getD_cons_zero]
    have HB3 := Lib.hid hCw.below
    have hsz3 := hCw.below.size
    have HO3 := Lib.hid hown
    clear hb3 hown
    go_wp2_with fail
    go_at_call 27
    have hroot := rroot_any (seg texts a k) S (some ⟨g, o, none⟩) c w3 (by rw [HLT.out]; omega) (by rw [HLT.out]; omega) (HT.out.ext HB3.out) (fun s hs => HTS.out s (seg_mem hs))
    rw [HLT.out] at hroot
    refine hroot.mono ?_
    clear hroot
    rintro e' w4 ⟨rfl, hb4⟩
    obtain ⟨R, hR⟩ : ∃ R, R = rootL (seg texts a k) := ⟨_, rfl⟩
    rw [← hR]
    have HDR : Hid (D = R :: growD texts (a + k) (n - k) (a + k + (i - k))) := Lib.hid (by rw [HD2.out, hR, show a + k + (i - k) = a + i by omega])
    have HNEW := Lib.hid (own_alloc (own_ext HO3.out hb4) (.cells #[.string (bs R)] 9))
    have HB4 := Lib.hid (HB3.out.trans (hb4.mono hsz3))
    have hsz4 := HB4.out.size
    clear hR hb4
    go_wp2_with (at_builtin; refine push_at w.heap.size rfl _ _ 22 9 (.string (bs [])) 16 rfl Tryd.underlying22 (by kernel_rfl) rfl (by decide) _ _ _ HNEW.out w4.heap.size 1 [.string (bs R)] (IsBlk.new _ _ _) rfl rfl rfl (by simp [Value.oneCell']) (by simp; omega) (by omega) ?_)
    intro v1 w5 hown hg
    have HO5 := Lib.hid (snoc_row HDR.out hown)
    have HB5 := Lib.hid (below_grown (HB4.out.alloc hsz4 _) hg (by simp; omega) (fun j hj => (HNEW.out.lt j hj).1))
    clear hown hg
    go_wp2
    refine Calm.normal ?_
    go_wp2
    go_ret
    exact ⟨_, rfl, HO5.out, HB5.out⟩
theorem rgrow_all : ∀ m n, n < m → GrowOk n := by
  intro m
  induction m with
  | zero => intro n h; omega
  | succ m ih => intro n h; exact grow_step n (fun j hj => ih j (by omega))
theorem rgrowth_out (n : Nat) (p : Option Addr) (c : Nat) (i : Int) (w : World) (hi : i < 0 ∨ (n : Int) < i) :
    Calls Tryd.prog 26 #[.slice p n c, .int .i64 i] w fun e' w' => e' = .returned (.tuple #[.slice none 0 0, .int .i64 2]) ∧ w = w' := by
  by_cases h1 : i < 0
  · have hd1 : decide (i < 0) = true := decide_eq_true h1
    clear hi
    go_enter Tryd.func26, Tryd.ntmps26
    go_wp2
    go_ret2
    exact ⟨rfl, rfl⟩
  · have hd1 : decide (i < 0) = false := decide_eq_false h1
    have h2 : (n : Int) < i := by omega
    have hd2 : decide ((n : Int) < i) = true := decide_eq_true h2
    clear hi
    go_enter Tryd.func26, Tryd.ntmps26
    go_wp2
    go_ret2
    exact ⟨rfl, rfl⟩
theorem rgrowth_ends (n : Nat) (p : Option Addr) (c i : Nat) (w : World) (hi : i = 0 ∨ i = n) :
    Calls Tryd.prog 26 #[.slice p n c, .int .i64 (i : Int)] w fun e' w' => e' = .returned (.tuple #[.slice none 0 0, .int .i64 0]) ∧ w = w' := by
  by_cases h1 : i = 0
  · subst h1
    clear hi
    rw [show ((0 : Nat) : Int) = 0 from rfl]
    go_enter Tryd.func26, Tryd.ntmps26
    go_wp2
    go_ret2
    exact ⟨rfl, rfl⟩
  · obtain rfl : i = n := by omega
    have h2 : ((i : Int) == 0) = false := by rw [beq_eq_false_iff_ne]; omega
    clear hi h1
    go_enter Tryd.func26, Tryd.ntmps26
    go_wp2
    go_ret2
    exact ⟨rfl, rfl⟩
theorem rgrowth_in (l : List (List UInt8)) (i : Nat) (S : Nat → Prop) (p : Option Addr) (c : Nat) (w : World) (hi0 : 0 < i) (hi : i < l.length) (hc : l.length ≤ c) (htl : l.length ≤ 1099511627776) (hs : HasS S w p l) (hts : ∀ s ∈ l, s.length ≤ 1099511627776) :
    Calls Tryd.prog 26 #[.slice p l.length c, .int .i64 (i : Int)] w fun e' w' => ∃ v, e' = .returned (.tuple #[v, .int .i64 0]) ∧ w'.ownsRow w.heap.size 9 1 v (growD l 0 l.length i).length (strsV (growD l 0 l.length i).reverse) ∧ Below w.heap.size w w' := by
  have h := rgrow_all _ _ (Nat.lt_succ_self l.length) l 0 i true S p c w rfl (by omega) hi0 (by omega) hc htl (by rw [seg_all]; exact hs) hts
  rw [Nat.zero_add] at h
  have H := Lib.hid h
  have hiI : (i : Int) < (l.length : Int) := by omega
  have q0 : ((i : Int) == 0) = false := by rw [beq_eq_false_iff_ne]; omega
  have q1 : ((i : Int) == (l.length : Int)) = false := by rw [beq_eq_false_iff_ne]; omega
  have q2 : i ≠ 0 := by omega
  clear h hs hts
  generalize growD l 0 l.length i = D at H ⊢
  go_enter Tryd.func26, Tryd.ntmps26
  go_wp2_with fail
  go_at_call 50
  refine H.out.mono ?_
  rintro e' w1 ⟨v, rfl, ho, hb⟩
  have HO := Lib.hid ho
  have HB := Lib.hid hb
  clear ho hb
  go_wp2
  go_ret2
  exact ⟨_, rfl, HO.out, HB.out⟩
end Go.Proofs.YtfnlehnhcekpkaaDoor
