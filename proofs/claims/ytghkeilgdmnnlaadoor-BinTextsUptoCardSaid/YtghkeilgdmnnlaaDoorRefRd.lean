/- codicilref03.Write, bytes. Conditions: the value lies in memory, its text is no longer than 2^40 bytes; the text is no longer than 2^40 bytes. -/
import Derived.Test.YtghkeilgdmnnlaaDoorRefText
set_option linter.unusedVariables false
set_option linter.unusedSimpArgs false
namespace Go.Proofs.YtghkeilgdmnnlaaDoor
open Go Go.RowKit Go.BigFrame
set_option maxRecDepth 100000

set_option maxHeartbeats 2000000 in
theorem ref_write_any (v : DVal) (S : Nat → Prop) (cs : List Value) (w : World) (hv : HasVal S w v cs) (hl : (textV v).length ≤ 1099511627776) :
    Calls Tryd.prog 11 #[.agg cs.toArray] w fun e' w' => e' = .returned (.tuple #[.string (bs (wrP v).1), .int .i64 (wrP v).2]) ∧ Below w.heap.size w w' := by
  have HV := Lib.hid hv
  obtain ⟨V, hV⟩ : ∃ V, V = v := ⟨_, rfl⟩
  rw [← hV] at HV hl ⊢
  obtain ⟨T, hTx⟩ : ∃ T, T = textV V := ⟨_, rfl⟩
  obtain ⟨C, hC⟩ : ∃ C, C = checkV 0 V := ⟨_, rfl⟩
  obtain ⟨R, hR⟩ : ∃ R, R = wrP V := ⟨_, rfl⟩
  rw [← hR]
  rw [wrP, ← hTx, ← hC] at hR
  rw [← hTx] at hl
  obtain ⟨k, b, n, s, l, f⟩ := v
  obtain ⟨pl, cl, pf, cf, rfl, _, _, _⟩ := hasVal_mk.1 hv
  clear hv hV
  have HTX := Lib.hid hTx
  have HC := Lib.hid hC
  have HR := Lib.hid hR
  clear hTx hC hR
  obtain ⟨nl, hnl⟩ : ∃ nl, nl = l.length := ⟨_, rfl⟩
  obtain ⟨nf, hnf⟩ : ∃ nf, nf = f.length := ⟨_, rfl⟩
  show Calls Tryd.prog 11 #[.agg #[.int .u8 (k : Int), .bool b, .int .i64 n, .string (bs s), .slice pl l.length cl, .slice pf f.length cf]] w _
  rw [← hnl, ← hnf] at HV ⊢
  clear hnl hnf
  go_enter Tryd.func11, Tryd.ntmps11
  go_wp2_with fail
  go_at_call 25
  have hb1 : Below w.heap.size w (w.alloc (.cells #[.int .u8 (k : Int), .bool b, .int .i64 n, .string (bs s), .slice pl nl cl, .slice pf nf cf] 26)) := (Below.refl _ _).alloc (Nat.le_refl _) _
  refine (ref_check_any V S _ _ (HV.out.ext hb1)).mono ?_
  rintro e' w1 ⟨he, hb⟩
  rw [← HC.out] at he
  subst he
  have hd1 : IsBlk w1 w.heap.size #[.int .u8 (k : Int), .bool b, .int .i64 n, .string (bs s), .slice pl nl cl, .slice pf nf cf] 26 := (IsBlk.new w _ _).ext hb
  have hbw := below_ext hb1 hb
  have c0 := hd1.cell (i := 0) rfl
  have c1 := hd1.cell (i := 1) rfl
  have c2 := hd1.cell (i := 2) rfl
  have c3 := hd1.cell (i := 3) rfl
  have c4 := hd1.cell (i := 4) rfl
  have c5 := hd1.cell (i := 5) rfl
  have HB := Lib.hid hbw
  clear hb hb1 hbw hd1
  by_cases hc : C = 0
  · have hR2 : R = if 16384 < T.length then ([], 4) else (T, 0) := by rw [HR.out, if_neg (by simpa using hc)]
    have HR2 := Lib.hid hR2
    have HC0 : Hid (checkV 0 V = 0) := Lib.hid (by rw [← HC.out, hc])
    clear hR2 HR HC
    subst hc
    have hsT := bs_size T
    go_wp2_with fail
    go_at_call 26
    refine (ref_text_any V 0 S _ _ (HV.out.ext HB.out) HC0.out (by rw [← HTX.out]; omega)).mono ?_
    rintro e' w2 ⟨he, hb⟩
    rw [← HTX.out] at he
    subst he
    have HB2 := Lib.hid (below_ext HB.out hb)
    clear hb c0 c1 c2 c3 c4 c5
    by_cases h16 : 16384 < T.length
    · have hI : (16384 : Int) < (T.length : Int) := by omega
      have hr := HR2.out
      rw [if_pos h16] at hr
      clear HR2 h16
      subst hr
      go_wp2
      go_ret2
      exact ⟨rfl, HB2.out⟩
    · have hI : (T.length : Int) ≤ 16384 := by omega
      have hr := HR2.out
      rw [if_neg h16] at hr
      clear HR2 h16
      subst hr
      go_wp2
      go_ret2
      exact ⟨rfl, HB2.out⟩
  · have hR2 : R = ([], C) := by rw [HR.out, if_pos (by simpa using hc)]
    have hcb : (C != 0) = true := by simpa using hc
    clear HR
    subst hR2
    go_wp2
    go_ret2
    exact ⟨rfl, HB.out⟩
/-- A text with its length at a text's beginning; what is behind it. -/
def bytesP (s : List UInt8) : List UInt8 × List UInt8 × Bool := if (takeP (numP (s, false)).1 (numP (s, false)).2).2.2 = true then ([], [], false) else ((takeP (numP (s, false)).1 (numP (s, false)).2).1, (takeP (numP (s, false)).1 (numP (s, false)).2).2.1, true)
theorem bytesP_none {s : List UInt8} (h : readNum s = none) : bytesP s = ([], [], false) := by
  simp [bytesP, numP, h, takeP]
theorem bytesP_short {s : List UInt8} {v c : Nat} (h : readNum s = some (v, c)) (hl : s.length - c < v) : bytesP s = ([], [], false) := by
  simp [bytesP, numP, h, takeP, hl]
theorem bytesP_some {s : List UInt8} {v c : Nat} (h : readNum s = some (v, c)) (hl : v ≤ s.length - c) : bytesP s = ((s.drop c).take v, s.drop (c + v), true) := by
  simp [bytesP, numP, h, takeP, show ¬ s.length - c < v by omega]
set_option maxHeartbeats 2000000 in
theorem ref_bytes2_any (s : List UInt8) (w : World) (hs : s.length ≤ 1099511627776) :
    Calls Tryd.prog 52 #[.string (bs s)] w fun e' w' => e' = .returned (.tuple #[.string (bs (bytesP s).1), .string (bs (bytesP s).2.1), .bool (bytesP s).2.2]) ∧ Below w.heap.size w w' := by
  have hsz := bs_size s
  obtain ⟨R, hR⟩ : ∃ R, R = bytesP s := ⟨_, rfl⟩
  rw [← hR]
  have HR := Lib.hid hR; clear hR
  go_enter Tryd.func52, Tryd.ntmps52
  go_wp2_with fail
  go_at_call 17
  refine (ref_readNumber_any (bs s) w (by omega)).mono ?_
  rw [bs_toList]
  rintro e' w1 ⟨he, hb⟩
  have HB := Lib.hid hb; clear hb
  cases hn : readNum s with
  | none =>
    have hr : R = ([], [], false) := by rw [HR.out, bytesP_none hn]
    rw [hn] at he
    clear HR hn
    subst hr
    subst he
    simp only [rdP]
    go_wp2
    go_ret3
    exact ⟨rfl, HB.out⟩
  | some p =>
    obtain ⟨v, c⟩ := p
    rw [hn] at he
    subst he
    obtain ⟨_, hc, hc1, hc10⟩ := readNum_some hn
    have hv64 := readNum_lt hn
    simp only [rdP]
    by_cases hlt : s.length - c < v
    · have hr : R = ([], [], false) := by rw [HR.out, bytesP_short hn hlt]
      have hI : (s.length : Int) - (c : Int) < (v : Int) := by omega
      clear HR hn
      subst hr
      go_wp2
      go_ret3
      exact ⟨rfl, HB.out⟩
    · have hr : R = ((s.drop c).take v, s.drop (c + v), true) := by rw [HR.out, bytesP_some hn (by omega)]
      have hI : (v : Int) ≤ (s.length : Int) - (c : Int) := by omega
      have HR := Lib.hid hr
      clear hn hr hlt
      have he1 : (bs s).extract c (c + v) = bs ((s.drop c).take v) := by rw [bs_extract, List.drop_take, Nat.add_sub_cancel_left]
      have he2 : (bs s).extract (c + v) s.length = bs (s.drop (c + v)) := by rw [bs_extract, List.take_length]
      have HE1 := Lib.hid he1
      have HE2 := Lib.hid he2
      clear he1 he2
      go_upto_region 4 with (fail)
      refine mix_start [] (Cls w1) (by kernel_rfl) (Cls.of ((Below.refl _ _).drew)) ?_
      refine mix_flt (by kernel_rfl) [0, 1, 2, 3, 4, 5, 6, 7, 8, 9, 10, 11, 12, 13, 14, 15] 0 _ _ (by kernel_rfl) ?_
      simp only [opsAt, List.map_cons, List.map_nil, List.toList_toArray, List.getD_cons_succ, List.getD_cons_zero]
      unfold Cls
      repeat (go_big_quiet_step (fail))
      refine wpQuiet_nil ?_
      (try rw [← Cls_def])
      refine mix_end [] (by kernel_rfl) (fun w1 hw1 => ?_)
      refine wpList_nil ?_
      refine Calm.normal ?_
      have HB2 := Lib.hid (below_ext HB.out hw1.below)
      clear hw1
      go_wp2
      go_ret3
      exact ⟨by rw [HR.out, ← HE1.out, ← HE2.out]; rfl, HB2.out⟩
end Go.Proofs.YtghkeilgdmnnlaaDoor
