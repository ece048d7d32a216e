/- codicillaw03.BinNumbers and BinOrder: walks and laws. Condition: utf8's tables read as the text lays them. -/
import Derived.Test.YtghkeilgdmnnlaaDoorBinLives
set_option linter.unusedVariables false
set_option linter.unusedSimpArgs false
namespace Go.Proofs.YtghkeilgdmnnlaaDoor
open Go Go.RowKit Go.BigFrame
set_option maxRecDepth 100000

set_option maxHeartbeats 2000000 in
theorem numbers_any (n : Nat) (hn : n < 18446744073709551616) (l : List UInt8) (hl : l.length ≤ 1048576) (w : World) (hT : U8T w) :
    Calls Tryd.prog 4 #[.int .u64 n, .string (bs l)] w fun e' w' => e' = .returned (.bool true) ∧ Below w.heap.size w w' := by
  have HT := Lib.hid hT
  clear hT
  have hsz := bs_size l
  obtain ⟨N, hN⟩ : ∃ N, N = numL n := ⟨_, rfl⟩
  have hNl : N.length ≤ 10 := by rw [hN]; exact numL_length n
  have hsN := bs_size N
  obtain ⟨a, k, y, hr⟩ : ∃ a k y, rdP (readNum l) = (a, k, y) := ⟨_, _, _, rfl⟩
  have hr2 : rdP (readNum (bs N ++ bs l).data.toList) = ((n : Int), (N.length : Int), 0) := by
    rw [bs_app, bs_toList, hN, readNum_numL n hn l]
    rfl
  have HN := Lib.hid hN
  have HR := Lib.hid hr
  have HR2 := Lib.hid hr2
  clear hN hr hr2
  have hlen : (bs N ++ bs l).size ≤ 281474976710656 := by rw [bs_app, bs_size, List.length_append]; omega
  go_enter Tryd.func4, Tryd.ntmps4
  go_wp2_with fail
  go_at_call 16
  refine (bin_readNumber_any (bs l) w (by omega)).mono ?_
  rintro e' w1 ⟨he, rfl⟩
  rw [bs_toList, HR.out] at he
  subst he
  go_wp2_with fail
  go_at_call 17
  refine (ref_readNumber_any (bs l) w (by omega)).mono ?_
  rintro e' w1 ⟨he, hb⟩
  rw [bs_toList, HR.out] at he
  subst he
  have HB1 := Lib.hid hb
  clear hb
  go_wp2_with fail
  go_at_call 18
  refine (bin_number_any n w1 hn).mono ?_
  rintro e' w2 ⟨he, hb⟩
  rw [← HN.out] at he
  subst he
  have HB2 := Lib.hid (below_ext HB1.out hb)
  clear hb HB1
  go_wp2_with fail
  go_at_call 16
  refine (bin_readNumber_any (bs N ++ bs l) w2 hlen).mono ?_
  rintro e' w3 ⟨he, rfl⟩
  rw [HR2.out] at he
  subst he
  go_wp2_with fail
  go_at_call 14
  refine (lives_any w2 (U8T_ext HT.out HB2.out)).mono ?_
  rintro e' w3 ⟨rfl, hb⟩
  have HB3 := Lib.hid (below_ext HB2.out hb)
  clear hb HB2
  go_wp2_with fail
  go_at_call 18
  refine (bin_number_any n w3 hn).mono ?_
  rintro e' w4 ⟨he, hb⟩
  rw [← HN.out] at he
  subst he
  have HB4 := Lib.hid (below_ext HB3.out hb)
  clear hb HB3
  go_wp2_with fail
  go_at_call 19
  refine (ref_number_any n w4 hn).mono ?_
  rintro e' w5 ⟨he, hb⟩
  rw [← HN.out] at he
  subst he
  have HB5 := Lib.hid (below_ext HB4.out hb)
  clear hb HB4
  go_wp2_with fail
  go_at_call 18
  refine (bin_number_any n w5 hn).mono ?_
  rintro e' w6 ⟨he, hb⟩
  rw [← HN.out] at he
  subst he
  have HB6 := Lib.hid (below_ext HB5.out hb)
  clear hb HB5
  go_wp2
  go_ret
  exact ⟨rfl, HB6.out⟩
theorem numF_mono : ∀ (k n m : Nat), n ≤ m → (numF k n).length ≤ (numF k m).length := by
  intro k
  induction k with
  | zero => intro n m _; exact Nat.le_refl _
  | succ k ih =>
    intro n m h
    by_cases hm : m < 128
    · rw [numF_small hm, numF_small (by omega)]; exact Nat.le_refl _
    · by_cases hn : n < 128
      · rw [numF_small hn, numF_big hm]
        simp
      · rw [numF_big hn, numF_big hm]
        have := ih (n / 128) (m / 128) (by omega)
        simp only [List.length_cons]
        omega
theorem numF_last : ∀ (k n : Nat), n < 128 ^ (k + 1) → ∃ (l : List UInt8) (b : UInt8), numF (k + 1) n = l ++ [b] ∧ (b.toNat ≠ 0 ∨ (n = 0 ∧ l = [])) := by
  intro k
  induction k with
  | zero =>
    intro n h
    have h' : n < 128 := by simpa using h
    refine ⟨[], UInt8.ofNat n, by rw [numF_small h']; rfl, ?_⟩
    rw [u8_nat_low n (by omega)]
    by_cases h0 : n = 0
    · exact Or.inr ⟨h0, rfl⟩
    · exact Or.inl h0
  | succ k ih =>
    intro n h
    by_cases hn : n < 128
    · refine ⟨[], UInt8.ofNat n, by rw [numF_small hn]; rfl, ?_⟩
      rw [u8_nat_low n (by omega)]
      by_cases h0 : n = 0
      · exact Or.inr ⟨h0, rfl⟩
      · exact Or.inl h0
    · obtain ⟨l, b, h1, h2⟩ := ih (n / 128) (by rw [Nat.pow_succ] at h; omega)
      refine ⟨UInt8.ofNat (n % 128 + 128) :: l, b, by rw [numF_big hn, h1]; rfl, Or.inl ?_⟩
      rcases h2 with h2 | h2
      · exact h2
      · omega
theorem numL_inj {n m : Nat} (hn : n < 18446744073709551616) (hm : m < 18446744073709551616) (h : numL n = numL m) : n = m := by
  have h1 := readNum_numL n hn []
  have h2 := readNum_numL m hm []
  rw [h, h2] at h1
  simp only [Option.some.injEq, Prod.mk.injEq] at h1
  exact h1.1.symm
theorem numL_snoc (n : Nat) (hn : n < 18446744073709551616) : ∃ (l : List UInt8) (b : UInt8), numL n = l ++ [b] ∧ (b.toNat ≠ 0 ∨ l = []) := by
  obtain ⟨l, b, h1, h2⟩ := numF_last 9 n (by omega)
  exact ⟨l, b, h1, h2.imp id (fun h => h.2)⟩
theorem bs_last (l : List UInt8) (b : UInt8) (i : Nat) (hi : i = l.length) (h : i < (bs (l ++ [b])).size) : (bs (l ++ [b]))[i].toNat = b.toNat := by
  subst hi
  rw [bs_get]
  simp
set_option maxHeartbeats 2000000 in
theorem order_any (n m : Nat) (hn : n < 18446744073709551616) (hm : m < 18446744073709551616) (w : World) (hT : U8T w) :
    Calls Tryd.prog 7 #[.int .u64 n, .int .u64 m] w fun e' w' => e' = .returned (.bool true) ∧ Below w.heap.size w w' := by
  have HT := Lib.hid hT
  clear hT
  have hNl : (numL n).length ≤ 10 := numL_length n
  have hMl : (numL m).length ≤ 10 := numL_length m
  have hmono := numF_mono 10 n m
  have hmono' := numF_mono 10 m n
  have hinj := numL_inj hn hm
  obtain ⟨ln, bn, hne, hnz⟩ := numL_snoc n hn
  obtain ⟨lm, bm, hme, hmz⟩ := numL_snoc m hm
  obtain ⟨N, hN⟩ : ∃ N, N = numL n := ⟨_, rfl⟩
  obtain ⟨M, hM⟩ : ∃ M, M = numL m := ⟨_, rfl⟩
  have hsN := bs_size N
  have hsM := bs_size M
  have e1 : (numF 10 n) = N := hN.symm
  have e2 : (numF 10 m) = M := hM.symm
  rw [e1, e2] at hmono hmono'
  rw [← hN] at hNl hinj hne
  rw [← hM] at hMl hinj hme
  have hn1 : 1 ≤ N.length := by rw [hne]; simp
  have hm1 : 1 ≤ M.length := by rw [hme]; simp
  have hnlen : ln.length = N.length - 1 := by rw [hne]; simp
  have hmlen : lm.length = M.length - 1 := by rw [hme]; simp
  have hlastN : ∀ h : N.length - 1 < (bs N).size, (bs N)[N.length - 1].toNat = bn.toNat := by
    intro h
    have := bs_last ln bn (N.length - 1) hnlen.symm (by rw [← hne]; exact h)
    simpa only [← hne] using this
  have hlastM : ∀ h : M.length - 1 < (bs M).size, (bs M)[M.length - 1].toNat = bm.toNat := by
    intro h
    have := bs_last lm bm (M.length - 1) hmlen.symm (by rw [← hme]; exact h)
    simpa only [← hme] using this
  have hnz2 : bn.toNat ≠ 0 ∨ N.length = 1 := hnz.imp id (fun h => by rw [hne, h]; rfl)
  have hmz2 : bm.toNat ≠ 0 ∨ M.length = 1 := hmz.imp id (fun h => by rw [hme, h]; rfl)
  have HN := Lib.hid hN
  have HM := Lib.hid hM
  have hbn := bn.toNat_lt
  have hbm := bm.toNat_lt
  clear hN hM e1 e2 hne hme hnz hmz hnlen hmlen
  have HLN := Lib.hid hlastN
  have HLM := Lib.hid hlastM
  clear hlastN hlastM
  go_enter Tryd.func7, Tryd.ntmps7
  go_wp2_with fail
  go_at_call 14
  refine (lives_any w HT.out).mono ?_
  rintro e' w3 ⟨rfl, hb⟩
  have HB3 := Lib.hid hb
  clear hb
  go_wp2_with fail
  go_at_call 18
  refine (bin_number_any n w3 hn).mono ?_
  rintro e' w4 ⟨he, hb⟩
  rw [← HN.out] at he
  subst he
  have HB4 := Lib.hid (below_ext HB3.out hb)
  clear hb HB3
  go_wp2_with fail
  go_at_call 18
  refine (bin_number_any m w4 hm).mono ?_
  rintro e' w5 ⟨he, hb⟩
  rw [← HM.out] at he
  subst he
  have HB5 := Lib.hid (below_ext HB4.out hb)
  clear hb HB4
  by_cases hnm : n ≤ m
  · have hI : (n : Int) ≤ (m : Int) := by omega
    have hle := hmono hnm
    have hlI : (N.length : Int) ≤ (M.length : Int) := by omega
    have hl0 : N.length - 1 < (bs N).size := by omega
    have hlast := HLN.out hl0
    go_upto_region 7 with (fail)
    have hseq : ((bs N).toList == (bs M).toList) = decide (n = m) := by
      rw [tl_bs, tl_bs]
      by_cases h : n = m
      · have hXY : N = M := by rw [HN.out, HM.out, h]
        rw [hXY, decide_eq_true h]
        simp
      · have hXY : ¬ N = M := fun e => h (hinj e)
        rw [decide_eq_false h]
        exact beq_eq_false_iff_ne.2 hXY
    have hieq : ((n : Int) == (m : Int)) = decide (n = m) := by
      by_cases h : n = m
      · rw [decide_eq_true h, h]; simp
      · rw [decide_eq_false h]; simp; omega
    obtain ⟨q, hq⟩ : ∃ q, q = decide (n = m) := ⟨_, rfl⟩
    rw [← hq] at hseq hieq
    clear hq hmono hmono' hinj
    cases q
    all_goals
      by_cases hb0 : bn.toNat = 0
      · have hl1 : N.length = 1 := hnz2.resolve_left (fun h => h hb0)
        have hbb : ((bn.toNat : Int) != 0) = false := by simp; omega
        have hlb : ((N.length : Int) == 1) = true := by simp; omega
        have HL1 := Lib.hid hl1
        clear hb0 hl1
        go_wp2
        go_ret
        exact ⟨rfl, HB5.out⟩
      · have hbb : ((bn.toNat : Int) != 0) = true := by simp; omega
        clear hb0
        go_wp2
        go_ret
        exact ⟨rfl, HB5.out⟩
  · have hI : (m : Int) < (n : Int) := by omega
    have hle := hmono' (by omega)
    have hlI : (M.length : Int) ≤ (N.length : Int) := by omega
    have hl0 : M.length - 1 < (bs M).size := by omega
    have hlast := HLM.out hl0
    go_upto_region 7 with (fail)
    have hseq : ((bs M).toList == (bs N).toList) = decide (n = m) := by
      rw [tl_bs, tl_bs]
      by_cases h : n = m
      · have hXY : N = M := by rw [HN.out, HM.out, h]
        rw [hXY, decide_eq_true h]
        simp
      · have hXY : ¬ N = M := fun e => h (hinj e)
        rw [decide_eq_false h]
        exact beq_eq_false_iff_ne.2 (fun e => hXY e.symm)
    have hieq : ((n : Int) == (m : Int)) = decide (n = m) := by
      by_cases h : n = m
      · rw [decide_eq_true h, h]; simp
      · rw [decide_eq_false h]; simp; omega
    obtain ⟨q, hq⟩ : ∃ q, q = decide (n = m) := ⟨_, rfl⟩
    rw [← hq] at hseq hieq
    clear hq hmono hmono' hinj
    cases q
    all_goals
      by_cases hb0 : bm.toNat = 0
      · have hl1 : M.length = 1 := hmz2.resolve_left (fun h => h hb0)
        have hbb : ((bm.toNat : Int) != 0) = false := by simp; omega
        have hlb : ((M.length : Int) == 1) = true := by simp; omega
        have HL1 := Lib.hid hl1
        clear hb0 hl1
        go_wp2
        go_ret
        exact ⟨rfl, HB5.out⟩
      · have hbb : ((bm.toNat : Int) != 0) = true := by simp; omega
        clear hb0
        go_wp2
        go_ret
        exact ⟨rfl, HB5.out⟩
end Go.Proofs.YtghkeilgdmnnlaaDoor
