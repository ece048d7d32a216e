/- The document's answer for trees: Same, Path, Growth. Conditions: texts no longer than 2^40 bytes, at most 2^40. -/
import Derived.Test.YtfnlehnhcekpkaaDoorMkE
set_option linter.unusedVariables false
set_option linter.unusedSimpArgs false
namespace Go.Proofs.YtfnlehnhcekpkaaDoor
open Go Go.RowKit Go.BigFrame
set_option maxRecDepth 100000

theorem bs_beq (a b : List UInt8) : ((bs a).toList == (bs b).toList) = decide (a = b) := by
  rw [tl_bs, tl_bs, Bool.eq_iff_iff, beq_iff_eq, decide_eq_true_iff]
set_option maxHeartbeats 2000000 in
theorem same_any (l m : List (List UInt8)) (S S' : Nat → Prop) (p q : Option Addr) (c d : Nat) (w : World) (hl : HasS S w p l) (hm : HasS S' w q m) (hn : l.length ≤ 1099511627776) (hn' : m.length ≤ 1099511627776) :
    Calls Tryd.prog 16 #[.slice p l.length c, .slice q m.length d] w fun e' w' => e' = .returned (.bool (decide (l = m))) ∧ Below w.heap.size w w' := by
  obtain ⟨R, hR⟩ : ∃ R, R = decide (l = m) := ⟨_, rfl⟩
  rw [← hR]
  have HR := Lib.hid hR
  have HL := Lib.hid hl
  have HM := Lib.hid hm
  obtain ⟨n, hn1⟩ : ∃ n, n = l.length := ⟨_, rfl⟩
  obtain ⟨n', hn2⟩ : ∃ n', n' = m.length := ⟨_, rfl⟩
  rw [← hn1] at hn ⊢
  rw [← hn2] at hn' ⊢
  have HN := Lib.hid hn1
  have HN' := Lib.hid hn2
  clear hl hm hR hn1 hn2
  by_cases hne : n = n'
  case neg =>
    have HR2 : Hid (R = false) := Lib.hid (by rw [HR.out, decide_eq_false]; intro e; apply hne; rw [HN.out, HN'.out, e])
    have hneI : ((n : Int) != (n' : Int)) = true := by rw [bne_iff_ne]; omega
    clear hne
    go_enter Tryd.func16, Tryd.ntmps16
    go_wp2
    go_ret
    exact ⟨by rw [HR2.out]; rfl, Below.refl _ _⟩
  subst hne
  go_enter Tryd.func16, Tryd.ntmps16
  go_wp2
  go_loopw [13] (fun v wr => ∃ j : Nat, v = .int .i64 (j : Int) ∧ j ≤ n ∧ l.take j = m.take j ∧ Below w.heap.size w wr) (fun v _ => n - (intOf v).toNat)
  case atStart => exact ⟨0, rfl, by omega, rfl, Below.refl _ _⟩
  case round =>
  obtain ⟨j, rfl, hj, hrel, hbw⟩ := hrel
  have HREL := Lib.hid hrel
  have HBW := Lib.hid hbw
  clear hrel hbw
  by_cases hlt : j < n
  · have hj1 : j < l.length := by rw [← HN.out]; exact hlt
    have hj2 : j < m.length := by rw [← HN'.out]; exact hlt
    obtain ⟨g1, o1, hp1, _, hg1, hc1⟩ := (HL.out.ext HBW.out) j hj1
    obtain ⟨g2, o2, hp2, _, hg2, hc2⟩ := (HM.out.ext HBW.out) j hj2
    have hl1 : l.take (j + 1) = l.take j ++ [l[j]] := by rw [List.take_add_one, List.getElem?_eq_getElem hj1]; rfl
    have hm1 : m.take (j + 1) = m.take j ++ [m[j]] := by rw [List.take_add_one, List.getElem?_eq_getElem hj2]; rfl
    have hno : l[j] ≠ m[j] → R = false := fun h => by
      rw [HR.out]
      refine decide_eq_false (fun e => h ?_)
      subst e
      rfl
    have hyes : l[j] = m[j] → l.take (j + 1) = m.take (j + 1) := fun h => by rw [hl1, hm1, HREL.out, h]
    generalize l[j] = a at hc1 hno hyes
    generalize m[j] = b at hc2 hno hyes
    have HNO := Lib.hid hno
    have HYES := Lib.hid hyes
    have hab := bs_beq a b
    clear hl1 hm1 hno hyes
    subst hp1
    subst hp2
    by_cases he : a = b
    · rw [decide_eq_true he] at hab
      have HY := Lib.hid (HYES.out he)
      clear he HYES HNO
      go_upto_region 6 with (fail)
      refine mixB_start [] (Cls wr) (by kernel_rfl) (Cls.of ((Below.refl _ _).drew)) (fun hCw => ?_)
      refine mixB_flt (by kernel_rfl) [0, 1, 2, 3, 4, 5, 6, 7, 8] 0 _ _ hCw (by kernel_rfl) ?_
      simp only [opsAt, List.map_cons, List.map_nil, List.toList_toArray, List.getD_cons_succ, List.getD_cons_zero]
      unfold Cls
      repeat (go_big_quiet_step (fail))
      refine wpQuiet_nil ?_
      (try rw [← Cls_def])
      refine mixB_end [] (by kernel_rfl) ?_
      refine wpList_nil ?_
      refine Calm.normal ?_
      go_wp2
      exact ⟨⟨j + 1, by go_num, by omega, HY.out, HBW.out.drew⟩, by simp [intOf]; omega⟩
    · rw [decide_eq_false he] at hab
      have HR2 := Lib.hid (HNO.out he)
      clear he HYES HNO
      go_upto_region 6 with (fail)
      refine mixB_start [] (Cls wr) (by kernel_rfl) (Cls.of ((Below.refl _ _).drew)) (fun hCw => ?_)
      refine mixB_flt (by kernel_rfl) [0, 1, 2, 3, 4, 5, 6, 7, 8] 0 _ _ hCw (by kernel_rfl) ?_
      simp only [opsAt, List.map_cons, List.map_nil, List.toList_toArray, List.getD_cons_succ, List.getD_cons_zero]
      unfold Cls
      repeat (go_big_quiet_step (fail))
      refine wpQuiet_nil ?_
      (try rw [← Cls_def])
      refine mixB_end [] (by kernel_rfl) ?_
      refine wpList_nil ?_
      refine Calm.normal ?_
      go_wp2
      go_ret
      exact ⟨by rw [HR2.out]; rfl, HBW.out.drew⟩
  · have hr : R = true := by
      rw [HR.out]
      refine decide_eq_true ?_
      have h := HREL.out
      rw [List.take_of_length_le (by rw [← HN.out]; omega), List.take_of_length_le (by rw [← HN'.out]; omega)] at h
      exact h
    have HR2 := Lib.hid hr
    clear hr
    go_wp2
    go_ret
    exact ⟨by rw [HR2.out]; rfl, HBW.out⟩
def PathOk (n : Nat) : Prop := ∀ (texts : List (List UInt8)) (a i : Nat) (S : Nat → Prop) (p : Option Addr) (c : Nat) (w : World), a + n ≤ texts.length → i < n → n ≤ c → texts.length ≤ 1099511627776 → HasS S w p (seg texts a n) → (∀ s ∈ texts, s.length ≤ 1099511627776) →
  Calls Tryd.prog 43 #[.slice p n c, .int .i64 (i : Int)] w fun e' w' => ∃ v, e' = .returned v ∧ w'.ownsRow w.heap.size 9 1 v (pathD texts a n (a + i)).length (strsV (pathD texts a n (a + i)).reverse) ∧ Below w.heap.size w w'
theorem seg_mem {texts : List (List UInt8)} {a n : Nat} {s : List UInt8} (h : s ∈ seg texts a n) : s ∈ texts := List.mem_of_mem_drop (List.mem_of_mem_take h)
theorem snoc_row {w : World} {B : Nat} {v : Value} {R : List UInt8} {l D : List (List UInt8)} (hD : D = R :: l) (h : w.ownsRow B 9 1 v (l.length + 1) (strsV l.reverse ++ [.string (bs R)])) : w.ownsRow B 9 1 v D.length (strsV D.reverse) := by
  subst hD
  simpa [strsV] using h
set_option maxHeartbeats 8000000 in
theorem path_step (n : Nat) (ih : ∀ m, m < n → PathOk m) : PathOk n := by
  intro texts a i S p c w han hin hcn htl hs hts
  obtain ⟨D, hD⟩ : ∃ D, D = pathD texts a n (a + i) := ⟨_, rfl⟩
  rw [← hD]
  have hDl : D.length ≤ 1099511627776 := by rw [hD]; exact Nat.le_trans (pathD_length texts _ a _ _ (Nat.le_refl _) (by omega)) (by omega)
  have HD := Lib.hid hD
  have HS := Lib.hid hs
  have HTS := Lib.hid hts
  have IH := Lib.hid ih
  have hsl := seg_length (l := texts) (a := a) (n := n) han
  have HSL := Lib.hid hsl
  clear ih hts hD hs hsl
  by_cases h1 : n = 1
  · subst h1
    have HD2 : Hid (D = []) := Lib.hid (by rw [HD.out, pathD_one (Nat.le_refl _)])
    go_enter Tryd.func43, Tryd.ntmps43
    go_wp2
    go_ret
    exact ⟨_, rfl, by rw [HD2.out]; exact ⟨rfl, Or.inl ⟨rfl, rfl⟩⟩, Below.refl _ _⟩
  have h2 : 2 ≤ n := by omega
  have q1 : ((n : Int) == 1) = false := by rw [beq_eq_false_iff_ne]; omega
  have hn40 : n ≤ 1099511627776 := by omega
  obtain ⟨g, o, rfl⟩ := HS.out.at0 (by rw [HSL.out]; omega)
  obtain ⟨ha, hb, hc1⟩ := halfN_fits h2 hn40
  obtain ⟨k, hk⟩ : ∃ k, k = halfN n := ⟨_, rfl⟩
  have HK := Lib.hid hk
  rw [← hk] at ha hb hc1
  have hi1 : (k : Int) ≤ (n : Int) := by omega
  have hi2 : (k : Int) ≤ (c : Int) := by omega
  have HT : Hid (HasS S w (some ⟨g, o, none⟩) (seg texts a k)) := Lib.hid (by have h := HS.out.take k; rwa [seg_take (by omega)] at h)
  have HR : Hid (HasS S w (some ⟨g, o + k, none⟩) (seg texts (a + k) (n - k))) := Lib.hid (by have h := HS.out.drop k; rwa [seg_drop] at h)
  have hlT := seg_length (l := texts) (a := a) (n := k) (by omega)
  have hlR := seg_length (l := texts) (a := a + k) (n := n - k) (by omega)
  have HLT := Lib.hid hlT
  have HLR := Lib.hid hlR
  clear hk h1 hlT hlR
  by_cases hik : i < k
  · have hltI : (i : Int) < (k : Int) := by omega
    have HD2 : Hid (D = rootL (seg texts (a + k) (n - k)) :: pathD texts a k (a + i)) := Lib.hid (by rw [HD.out, HK.out]; exact pathD_left h2 hn40 (by rw [← HK.out]; omega))
    have hpl : (pathD texts a k (a + i)).length ≤ 1099511627776 := Nat.le_trans (pathD_length texts _ a _ _ (Nat.le_refl _) (by omega)) (by omega)
    clear hik
    go_enter Tryd.func43, Tryd.ntmps43
    go_wp2_with fail
    go_at_call 51
    refine (rhalf_any n h2 hn40 _).mono ?_
    rintro e' w2 ⟨he, rfl⟩
    rw [← HK.out] at he
    subst he
    go_upto_region 5 with (fail)
    refine mixB_start [8, 9, 10, 11] (Cls w) (by kernel_rfl) (Cls.of ((Below.refl _ _).drew)) (fun hCw => ?_)
    refine mixB_flt (by kernel_rfl) [0, 1, 2, 3, 5, 6, 7] 5 _ _ hCw (by kernel_rfl) ?_
    simp only [opsAt, List.map_cons, List.map_nil, List.toList_toArray, List.getD_cons_succ, List.getD_cons_zero]
    unfold Cls
    repeat (go_big_quiet_step (fail))
    refine wpQuiet_nil ?_
    (try rw [← Cls_def])
    refine mixB_ch (i := 4) (fuel := 4) (by kernel_rfl) (by kernel_rfl) ?_
    simp only [opsAt, List.map_cons, List.map_nil, List.toList_toArray, List.getD_cons_succ, List.getD_cons_zero]
    go_wp2_with (go_at_call 43; refine (IH.out k hb texts a i S _ c _ (by omega) (by omega) (by omega) htl (HT.out.ext hCw.below) HTS.out).mono ?_; rintro e' w3 ⟨v, rfl, hown, hb3⟩)
    refine ThenB.mk (hCw.trans hb3) (fun hCw => ?_)
    refine mixB_end [8, 9, 10, 11] (by kernel_rfl) ?_
    simp only [opsAt, List.map_cons, List.map_nil, List.toList_toArray, List.getD_cons_succ, List.getD_cons_zero]
    have HB3 := Lib.hid hCw.below
    have hsz3 := hCw.below.size
    have HO3 := Lib.hid hown
    clear hb3 hown
    go_wp2_with fail
    go_at_call 27
    have hroot := rroot_any (seg texts (a + k) (n - k)) S (some ⟨g, o + k, none⟩) (c - k) w3 (by rw [HLR.out]; omega) (by rw [HLR.out]; omega) (HR.out.ext HB3.out) (fun s hs => HTS.out s (seg_mem hs))
    rw [HLR.out] at hroot
    refine hroot.mono ?_
    clear hroot
    rintro e' w4 ⟨rfl, hb4⟩
    obtain ⟨R, hR⟩ : ∃ R, R = rootL (seg texts (a + k) (n - k)) := ⟨_, rfl⟩
    rw [← hR]
    have HDR : Hid (D = R :: pathD texts a k (a + i)) := Lib.hid (by rw [HD2.out, hR])
    have HNEW := Lib.hid (own_alloc (own_ext HO3.out hb4) (.cells #[.string (bs R)] 9))
    have HB4 := Lib.hid (HB3.out.trans (hb4.mono hsz3))
    have hsz4 := HB4.out.size
    clear hR hb4
    go_wp2_with (at_builtin; refine push_at w.heap.size rfl _ _ 22 9 (.string (bs [])) 16 rfl Tryd.underlying22 (by kernel_rfl) rfl (by decide) _ _ _ HNEW.out w4.heap.size 1 [.string (bs R)] (IsBlk.new _ _ _) rfl rfl rfl (by simp [Value.oneCell']) (by simp; omega) (by omega) ?_)
    intro v1 w5 hown hg
    have HO5 := Lib.hid (snoc_row HDR.out hown)
    have HB5 := Lib.hid (below_grown (HB4.out.alloc hsz4 _) hg (by simp; omega) (fun j hj => (HNEW.out.lt j hj).1))
    clear hown hg
    go_wp2
    refine Calm.normal ?_
    go_wp2
    go_ret
    exact ⟨_, rfl, HO5.out, HB5.out⟩
  · have hltI : (k : Int) ≤ (i : Int) := by omega
    have HD2 : Hid (D = rootL (seg texts a k) :: pathD texts (a + k) (n - k) (a + i)) := Lib.hid (by rw [HD.out, HK.out]; exact pathD_right h2 hn40 (by rw [← HK.out]; omega))
    have hpl : (pathD texts (a + k) (n - k) (a + k + (i - k))).length ≤ 1099511627776 := Nat.le_trans (pathD_length texts _ (a + k) _ _ (Nat.le_refl _) (by omega)) (by omega)
    clear hik
    go_enter Tryd.func43, Tryd.ntmps43
    go_wp2_with fail
    go_at_call 51
    refine (rhalf_any n h2 hn40 _).mono ?_
    rintro e' w2 ⟨he, rfl⟩
    rw [← HK.out] at he
    subst he
    go_upto_region 6 with (fail)
    refine mixB_start [10, 11, 12, 13] (Cls w) (by kernel_rfl) (Cls.of ((Below.refl _ _).drew)) (fun hCw => ?_)
    refine mixB_flt (by kernel_rfl) [0, 1, 2, 3, 4, 5, 7, 8, 9] 5 _ _ hCw (by kernel_rfl) ?_
    simp only [opsAt, List.map_cons, List.map_nil, List.toList_toArray, List.getD_cons_succ, List.getD_cons_zero]
    unfold Cls
    repeat (go_big_quiet_step (fail))
    refine wpQuiet_nil ?_
    (try rw [← Cls_def])
    refine mixB_ch (i := 6) (fuel := 4) (by kernel_rfl) (by kernel_rfl) ?_
    simp only [opsAt, List.map_cons, List.map_nil, List.toList_toArray, List.getD_cons_succ, List.getD_cons_zero]
    go_wp2_with (go_at_call 43; have h6 := IH.out (n - k) (by omega) texts (a + k) (i - k) S _ (c - k) _ (by omega) (by omega) (by omega) htl (HR.out.ext hCw.below) HTS.out; rw [show ((i - k : Nat) : Int) = (i : Int) - (k : Int) by omega] at h6; refine (h6).mono ?_; clear h6; rintro e' w3 ⟨v, rfl, hown, hb3⟩)
    refine ThenB.mk (hCw.trans hb3) (fun hCw => ?_)
    refine mixB_end [10, 11, 12, 13] (by kernel_rfl) ?_
    simp only [opsAt, List.map_cons, List.map_nil, List.toList_toArray, List.getD_cons_succ, List.getD_cons_zero]
    have HB3 := Lib.hid hCw.below
    have hsz3 := hCw.below.size
    have HO3 := Lib.hid hown
    clear hb3 hown
    go_wp2_with fail
    go_at_call 27
    have hroot := rroot_any (seg texts a k) S (some ⟨g, o, none⟩) c w3 (by rw [HLT.out]; omega) (by rw [HLT.out]; omega) (HT.out.ext HB3.out) (fun s hs => HTS.out s (seg_mem hs))
    rw [HLT.out] at hroot
    refine hroot.mono ?_
    clear hroot
    rintro e' w4 ⟨rfl, hb4⟩
    obtain ⟨R, hR⟩ : ∃ R, R = rootL (seg texts a k) := ⟨_, rfl⟩
    rw [← hR]
    have HDR : Hid (D = R :: pathD texts (a + k) (n - k) (a + k + (i - k))) := Lib.hid (by rw [HD2.out, hR, show a + k + (i - k) = a + i by omega])
    have HNEW := Lib.hid (own_alloc (own_ext HO3.out hb4) (.cells #[.string (bs R)] 9))
    have HB4 := Lib.hid (HB3.out.trans (hb4.mono hsz3))
    have hsz4 := HB4.out.size
    clear hR hb4
    go_wp2_with (at_builtin; refine push_at w.heap.size rfl _ _ 22 9 (.string (bs [])) 16 rfl Tryd.underlying22 (by kernel_rfl) rfl (by decide) _ _ _ HNEW.out w4.heap.size 1 [.string (bs R)] (IsBlk.new _ _ _) rfl rfl rfl (by simp [Value.oneCell']) (by simp; omega) (by omega) ?_)
    intro v1 w5 hown hg
    have HO5 := Lib.hid (snoc_row HDR.out hown)
    have HB5 := Lib.hid (below_grown (HB4.out.alloc hsz4 _) hg (by simp; omega) (fun j hj => (HNEW.out.lt j hj).1))
    clear hown hg
    go_wp2
    refine Calm.normal ?_
    go_wp2
    go_ret
    exact ⟨_, rfl, HO5.out, HB5.out⟩
theorem rpath_all : ∀ m n, n < m → PathOk n := by
  intro m
  induction m with
  | zero => intro n h; omega
  | succ m ih => intro n h; exact path_step n (fun j hj => ih j (by omega))
theorem rpath_out (n : Nat) (p : Option Addr) (c : Nat) (i : Int) (w : World) (hi : i < 0 ∨ (n : Int) ≤ i) :
    Calls Tryd.prog 20 #[.slice p n c, .int .i64 i] w fun e' w' => e' = .returned (.tuple #[.slice none 0 0, .int .i64 2]) ∧ w = w' := by
  by_cases h1 : i < 0
  · have hd1 : decide (i < 0) = true := decide_eq_true h1
    clear hi
    go_enter Tryd.func20, Tryd.ntmps20
    go_wp2
    go_ret2
    exact ⟨rfl, rfl⟩
  · have hd1 : decide (i < 0) = false := decide_eq_false h1
    have h2 : (n : Int) ≤ i := by omega
    have hd2 : decide ((n : Int) ≤ i) = true := decide_eq_true h2
    clear hi
    go_enter Tryd.func20, Tryd.ntmps20
    go_wp2
    go_ret2
    exact ⟨rfl, rfl⟩
theorem rpath_in (l : List (List UInt8)) (i : Nat) (S : Nat → Prop) (p : Option Addr) (c : Nat) (w : World) (hi : i < l.length) (hc : l.length ≤ c) (htl : l.length ≤ 1099511627776) (hs : HasS S w p l) (hts : ∀ s ∈ l, s.length ≤ 1099511627776) :
    Calls Tryd.prog 20 #[.slice p l.length c, .int .i64 (i : Int)] w fun e' w' => ∃ v, e' = .returned (.tuple #[v, .int .i64 0]) ∧ w'.ownsRow w.heap.size 9 1 v (pathD l 0 l.length i).length (strsV (pathD l 0 l.length i).reverse) ∧ Below w.heap.size w w' := by
  have h := rpath_all _ _ (Nat.lt_succ_self l.length) l 0 i S p c w (by omega) hi hc htl (by rw [seg_all]; exact hs) hts
  rw [Nat.zero_add] at h
  have H := Lib.hid h
  have hiI : (i : Int) < (l.length : Int) := by omega
  clear h hs hts
  generalize pathD l 0 l.length i = D at H ⊢
  go_enter Tryd.func20, Tryd.ntmps20
  go_wp2_with fail
  go_at_call 43
  refine H.out.mono ?_
  rintro e' w1 ⟨v, rfl, ho, hb⟩
  have HO := Lib.hid ho
  have HB := Lib.hid hb
  clear ho hb
  go_wp2
  go_ret2
  exact ⟨_, rfl, HO.out, HB.out⟩
end Go.Proofs.YtfnlehnhcekpkaaDoor
