/- The document's answer for trees: Leaf, Node, half, Root. Conditions: texts no longer than 2^40 bytes, at most 2^40. -/
import Derived.Test.YtfnlehnhcekpkaaDoorMkG
import Derived.Test.YtfnlehnhcekpkaaDoorRefSum
set_option linter.unusedVariables false
set_option linter.unusedSimpArgs false
namespace Go.Proofs.YtfnlehnhcekpkaaDoor
open Go Go.RowKit Go.BigFrame
set_option maxRecDepth 100000

theorem rsum_l (l : List UInt8) (s : ByteArray) (hs : s = bs l) (w : World) (hl : l.length ≤ 281474976710656) :
    Calls Tryd.prog 38 #[.string s] w fun e' w' => e' = .returned (.string (bs (shaL l))) ∧ Below w.heap.size w w' := by
  subst hs
  exact rsum_any (bs l) w (by rw [bs_size]; exact hl)
theorem rleaf_any (s : List UInt8) (w : World) (hs : s.length ≤ 1099511627776) :
    Calls Tryd.prog 36 #[.string (bs s)] w fun e' w' => e' = .returned (.string (bs (leafL s))) ∧ Below w.heap.size w w' := by
  have hsz := bs_size s
  have HS : Hid (∀ x : ByteArray, x = ⟨#[0]⟩ ++ bs s → x = bs (0 :: s)) := Lib.hid (fun x h => by rw [h, bs_cons]; rfl)
  go_enter Tryd.func36, Tryd.ntmps36
  go_wp2_with fail
  go_at_call 38
  refine (rsum_l (0 :: s) _ (HS.out _ rfl) _ (by rw [List.length_cons]; omega)).mono ?_
  rintro e' w1 ⟨rfl, hb⟩
  have HB := Lib.hid hb
  clear hb
  go_wp2
  go_ret
  exact ⟨rfl, HB.out⟩
theorem rnode_any (a b : List UInt8) (w : World) (ha : a.length ≤ 1099511627776) (hb : b.length ≤ 1099511627776) :
    Calls Tryd.prog 37 #[.string (bs a), .string (bs b)] w fun e' w' => e' = .returned (.string (bs (nodeL a b))) ∧ Below w.heap.size w w' := by
  have hsa := bs_size a
  have hsb := bs_size b
  have HS : Hid (∀ x : ByteArray, x = ⟨#[1]⟩ ++ bs a ++ bs b → x = bs (1 :: (a ++ b))) := Lib.hid (fun x h => by rw [h, bs_cons2]; rfl)
  go_enter Tryd.func37, Tryd.ntmps37
  go_wp2_with fail
  go_at_call 38
  refine (rsum_l (1 :: (a ++ b)) _ (HS.out _ rfl) _ (by rw [List.length_cons, List.length_append]; omega)).mono ?_
  rintro e' w1 ⟨rfl, hb⟩
  have HB := Lib.hid hb
  clear hb
  go_wp2
  go_ret
  exact ⟨rfl, HB.out⟩
theorem half_of {n j : Nat} (h2 : 2 ≤ n) (hn : n ≤ 1099511627776) (h : 2 ^ j < n) (h' : n ≤ 2 * 2 ^ j) : halfN n = 2 ^ j := by
  obtain ⟨a, b, c⟩ := bitLen_pow (n - 1) (n - 1) (Nat.le_refl _) (by omega) (by omega)
  unfold halfN
  obtain ⟨L, hL⟩ : ∃ L, Lib.bitLen (n - 1) = L + 1 := ⟨Lib.bitLen (n - 1) - 1, by omega⟩
  rw [hL] at a b ⊢
  rw [Nat.add_sub_cancel] at a ⊢
  rcases Nat.lt_trichotomy j L with hj | rfl | hj
  · have := Nat.pow_le_pow_right (show 0 < 2 by omega) (show j + 1 ≤ L by omega)
    rw [Nat.pow_succ] at this
    omega
  · rfl
  · have := Nat.pow_le_pow_right (show 0 < 2 by omega) (show L + 1 ≤ j by omega)
    omega
theorem rhalf_any (n : Nat) (h2 : 2 ≤ n) (hn : n ≤ 1099511627776) (w : World) : Calls Tryd.prog 51 #[.int .i64 (n : Int)] w fun e' w' => e' = .returned (.int .i64 (halfN n : Int)) ∧ w = w' := by
  obtain ⟨R, hR⟩ : ∃ R, R = halfN n := ⟨_, rfl⟩
  rw [← hR]
  have HR : Hid (∀ j, 2 ^ j < n → n ≤ 2 * 2 ^ j → 2 ^ j = R) := Lib.hid (fun j h1 h3 => by rw [hR, half_of h2 hn h1 h3])
  clear hR
  go_enter Tryd.func51, Tryd.ntmps51
  go_wp2
  go_loop [3] (fun v => ∃ k j : Nat, v = .int .i64 (k : Int) ∧ k = 2 ^ j ∧ k < n ∧ 1 ≤ k) (fun v => n - (intOf v).toNat)
  case atStart => exact ⟨1, 0, rfl, rfl, by omega, by omega⟩
  case round =>
  obtain ⟨k, j, rfl, hk, hkn, hk1⟩ := hrel
  have HK := Lib.hid hk
  clear hk
  by_cases hlt : 2 * k < n
  · have hltI : 2 * (k : Int) < (n : Int) := by omega
    go_wp2
    go_round
    case rel => exact ⟨2 * k, j + 1, by go_num, by rw [HK.out, Nat.pow_succ]; omega, by omega, by omega⟩
    case measure => simp [intOf]; omega
  · have hltI : (n : Int) ≤ 2 * (k : Int) := by omega
    have hr : k = R := by have h := HR.out j; rw [← HK.out] at h; exact h hkn (by omega)
    subst hr
    go_wp2
    go_ret
    exact ⟨rfl, rfl⟩
theorem HasS.take {S : Nat → Prop} {w : World} {p : Option Addr} {l : List (List UInt8)} (h : HasS S w p l) (k : Nat) : HasS S w p (l.take k) := fun i hi => by
  have hi' : i < l.length := by rw [List.length_take] at hi; omega
  rw [List.getElem_take]
  exact h i hi'
theorem HasS.drop {S : Nat → Prop} {w : World} {g o : Nat} {l : List (List UInt8)} (h : HasS S w (some ⟨g, o, none⟩) l) (k : Nat) : HasS S w (some ⟨g, o + k, none⟩) (l.drop k) := fun i hi => by
  rw [List.length_drop] at hi
  obtain ⟨g', o', h1, h2, h3, h4⟩ := h (k + i) (by omega)
  simp only [Option.some.injEq, Addr.mk.injEq] at h1
  obtain ⟨rfl, rfl, _⟩ := h1
  refine ⟨g, o + k, rfl, h2, h3, ?_⟩
  rw [List.getElem_drop, show o + k + i = o + (k + i) by omega]
  exact h4
theorem HasS.at0 {S : Nat → Prop} {w : World} {p : Option Addr} {l : List (List UInt8)} (h : HasS S w p l) (hl : 0 < l.length) : ∃ g o, p = some ⟨g, o, none⟩ := by
  obtain ⟨g, o, h, _⟩ := h 0 hl
  exact ⟨g, o, h⟩
def RootOk (n : Nat) : Prop := ∀ (l : List (List UInt8)) (S : Nat → Prop) (p : Option Addr) (c : Nat) (w : World), l.length = n → n ≤ c → n ≤ 1099511627776 → HasS S w p l → (∀ s ∈ l, s.length ≤ 1099511627776) →
  Calls Tryd.prog 27 #[.slice p n c] w fun e' w' => e' = .returned (.string (bs (rootL l))) ∧ Below w.heap.size w w'
set_option maxHeartbeats 4000000 in
theorem root_step (n : Nat) (ih : ∀ m, m < n → RootOk m) : RootOk n := by
  intro l S p c w hl hc hn hs hts
  obtain ⟨D, hD⟩ : ∃ D, D = rootL l := ⟨_, rfl⟩
  rw [← hD]
  have HD := Lib.hid hD
  have HS := Lib.hid hs
  have HTS := Lib.hid hts
  have IH := Lib.hid ih
  have HL := Lib.hid hl
  clear ih hts hD hs hl
  by_cases h0 : n = 0
  · subst h0
    have HD2 : Hid (D = shaL []) := Lib.hid (by rw [HD.out, List.eq_nil_of_length_eq_zero HL.out]; rfl)
    go_enter Tryd.func27, Tryd.ntmps27
    go_wp2_with fail
    go_at_call 38
    refine (rsum_l [] _ rfl _ (by simp)).mono ?_
    rintro e' w2 ⟨he, hb⟩
    rw [← HD2.out] at he
    subst he
    have HB2 := Lib.hid hb
    clear hb
    go_wp2
    go_ret
    exact ⟨rfl, HB2.out⟩
  have q0 : ((n : Int) == 0) = false := by rw [beq_eq_false_iff_ne]; omega
  by_cases h1 : n = 1
  · subst h1
    have hat : 0 < l.length := by rw [HL.out]; omega
    obtain ⟨g, o, rfl, _, hg, hc0⟩ := HS.out 0 hat
    have hsl := HTS.out _ (List.getElem_mem hat)
    have hdl : D = leafL l[0] := by
      have h2 := HL.out
      rw [HD.out]
      match l, h2 with
      | [s], _ => rfl
    generalize l[0] = s at hc0 hsl hdl
    have HD2 := Lib.hid hdl
    rw [Nat.add_zero] at hc0
    clear hdl hat h0 q0
    go_enter Tryd.func27, Tryd.ntmps27
    go_wp2_with fail
    go_at_call 36
    refine (rleaf_any s _ hsl).mono ?_
    rintro e' w2 ⟨he, hb⟩
    rw [← HD2.out] at he
    subst he
    have HB2 := Lib.hid hb
    clear hb
    go_wp2
    go_ret
    exact ⟨rfl, HB2.out⟩
  have q1 : ((n : Int) == 1) = false := by rw [beq_eq_false_iff_ne]; omega
  have h2 : 2 ≤ n := by omega
  obtain ⟨g, o, rfl⟩ := HS.out.at0 (by rw [HL.out]; omega)
  obtain ⟨ha, hb, hc1⟩ := halfN_fits h2 hn
  obtain ⟨k, hk⟩ : ∃ k, k = halfN n := ⟨_, rfl⟩
  have HK := Lib.hid hk
  rw [← hk] at ha hb hc1
  have hroot : D = nodeL (rootL (l.take k)) (rootL (l.drop k)) := by rw [HD.out, rootL_two (by rw [HL.out]; exact h2) (by rw [HL.out]; exact hn), HL.out, ← hk]
  have HD2 := Lib.hid hroot
  have hi1 : (k : Int) ≤ (n : Int) := by omega
  have hi2 : (k : Int) ≤ (c : Int) := by omega
  clear hk hroot h0 h1
  go_enter Tryd.func27, Tryd.ntmps27
  go_wp2_with fail
  go_at_call 51
  refine (rhalf_any n h2 hn _).mono ?_
  rintro e' w2 ⟨he, rfl⟩
  rw [← HK.out] at he
  subst he
  go_upto_region 7 with (fail)
  refine mixB_start [] (Cls w) (by kernel_rfl) (Cls.of ((Below.refl _ _).drew)) (fun hCw => ?_)
  refine mixB_flt (by kernel_rfl) [0, 1, 2, 4, 5, 6] 4 _ _ hCw (by kernel_rfl) ?_
  simp only [opsAt, List.map_cons, List.map_nil, List.toList_toArray, List.getD_cons_succ, List.getD_cons_zero]
  unfold Cls
  repeat (go_big_quiet_step (fail))
  refine wpQuiet_nil ?_
  (try rw [← Cls_def])
  refine mixB_ch (i := 3) (fuel := 3) (by kernel_rfl) (by kernel_rfl) ?_
  simp only [opsAt, List.map_cons, List.map_nil, List.toList_toArray, List.getD_cons_succ, List.getD_cons_zero]
  go_wp2_with (go_at_call 27; go_at_call 27; refine (IH.out k hb (l.take k) S _ c _ (by rw [List.length_take, HL.out]; omega) (by omega) (by omega) ((HS.out.take k).ext hCw.below) (fun s hs => HTS.out s (List.mem_of_mem_take hs))).mono ?_; rintro e' w3 ⟨rfl, hb3⟩)
  refine ThenB.mk (hCw.trans hb3) (fun hCw => ?_)
  refine mixB_ch (i := 7) (fuel := 2) (by kernel_rfl) (by kernel_rfl) ?_
  simp only [opsAt, List.map_cons, List.map_nil, List.toList_toArray, List.getD_cons_succ, List.getD_cons_zero]
  go_wp2_with (go_at_call 27; go_at_call 27; refine (IH.out (n - k) (by omega) (l.drop k) S _ (c - k) _ (by rw [List.length_drop, HL.out]) (by omega) (by omega) ((HS.out.drop k).ext hCw.below) (fun s hs => HTS.out s (List.mem_of_mem_drop hs))).mono ?_; rintro e' w7 ⟨rfl, hb7⟩)
  refine ThenB.mk (hCw.trans hb7) (fun hCw => ?_)
  refine mixB_ch (i := 8) (fuel := 1) (by kernel_rfl) (by kernel_rfl) ?_
  simp only [opsAt, List.map_cons, List.map_nil, List.toList_toArray, List.getD_cons_succ, List.getD_cons_zero]
  go_wp2_with (go_at_call 37; refine (rnode_any _ _ _ (by rw [rootL_len]; omega) (by rw [rootL_len]; omega)).mono ?_; rintro e' w8 ⟨he, hb8⟩; rw [← HD2.out] at he; subst he)
  refine ThenB.mk (hCw.trans hb8) (fun hCw => ?_)
  refine mixB_flt (by kernel_rfl) [9] 0 _ _ hCw (by kernel_rfl) ?_
  simp only [opsAt, List.map_cons, List.map_nil, List.toList_toArray, List.getD_cons_succ, List.getD_cons_zero]
  unfold Cls
  repeat (go_big_quiet_step (fail))
  refine wpQuiet_nil ?_
  (try rw [← Cls_def])
  refine mixB_end [] (by kernel_rfl) ?_
  refine wpList_nil ?_
  refine Calm.normal ?_
  have HB := Lib.hid hCw.below
  clear hb3 hb7 hb8
  go_wp2
  go_ret
  exact ⟨rfl, HB.out⟩
theorem rroot_all : ∀ m n, n < m → RootOk n := by
  intro m
  induction m with
  | zero => intro n h; omega
  | succ m ih => intro n h; exact root_step n (fun j hj => ih j (by omega))
theorem rroot_any (l : List (List UInt8)) (S : Nat → Prop) (p : Option Addr) (c : Nat) (w : World) (hc : l.length ≤ c) (hn : l.length ≤ 1099511627776) (hs : HasS S w p l) (hts : ∀ s ∈ l, s.length ≤ 1099511627776) :
    Calls Tryd.prog 27 #[.slice p l.length c] w fun e' w' => e' = .returned (.string (bs (rootL l))) ∧ Below w.heap.size w w' := rroot_all _ _ (Nat.lt_succ_self _) l S p c w rfl hc hn hs hts
end Go.Proofs.YtfnlehnhcekpkaaDoor
