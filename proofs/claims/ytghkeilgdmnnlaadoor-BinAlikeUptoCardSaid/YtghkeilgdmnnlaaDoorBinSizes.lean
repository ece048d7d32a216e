/- codicillaw03.BinSizes: walk and law. Conditions: the value lies in memory; utf8's tables read as the text lays them. -/
import Derived.Test.YtghkeilgdmnnlaaDoorBinLives
import Derived.Test.YtghkeilgdmnnlaaDoorCount
set_option linter.unusedVariables false
set_option linter.unusedSimpArgs false
namespace Go.Proofs.YtghkeilgdmnnlaaDoor
open Go Go.RowKit Go.BigFrame
set_option maxRecDepth 100000

mutual
theorem tlV : ∀ v : DVal, (textV v).length ≤ 24 * bulkV v + 11
  | .mk k b n s l f => by
    have h1 := tlL l
    have h2 := tlF f
    have h3 := numL_length (zigN n)
    have h4 := bytesL_length s
    have h5 := numL_length l.length
    have h6 := numL_length f.length
    rw [textV, bulkV]
    repeat' split
    all_goals (simp only [List.length_cons, List.length_append, List.length_nil]; omega)
theorem tlL : ∀ l : List DVal, (textL l).length ≤ 24 * bulkL l
  | [] => by simp [textL]
  | v :: l => by
    have h1 := tlV v
    have h2 := tlL l
    rw [textL, bulkL, List.length_append]
    omega
theorem tlF : ∀ l : List (List UInt8 × DVal), (textF l).length ≤ 24 * bulkF l
  | [] => by simp [textF]
  | (x, v) :: l => by
    have h1 := tlV v
    have h2 := tlF l
    have h3 := bytesL_length x
    rw [textF, bulkF, List.length_append, List.length_append]
    omega
end
mutual
theorem cbV : ∀ v : DVal, countV v ≤ bulkV v + 1
  | .mk k b n s l f => by
    have h1 := cbL l
    have h2 := cbF f
    rw [countV, bulkV]
    omega
theorem cbL : ∀ l : List DVal, countL l ≤ bulkL l
  | [] => by simp [countL]
  | v :: l => by
    have h1 := cbV v
    have h2 := cbL l
    rw [countL, bulkL]
    omega
theorem cbF : ∀ l : List (List UInt8 × DVal), countF l ≤ bulkF l
  | [] => by simp [countF]
  | (x, v) :: l => by
    have h1 := cbV v
    have h2 := cbF l
    rw [countF, bulkF]
    omega
end
theorem orE_0 {a b : Int} (h : orE a b = 0) : a = 0 ∧ b = 0 := by
  unfold orE at h
  split at h
  · exact ⟨by assumption, h⟩
  · exact absurd h (by assumption)
theorem numL_pos (n : Nat) : 1 ≤ (numL n).length := by
  unfold numL
  by_cases h : n < 128
  · rw [numF_small h]; simp
  · rw [numF_big h]; simp
mutual
theorem ctV : ∀ (v : DVal) (d : Nat), checkV d v = 0 → countV v ≤ (textV v).length
  | .mk k b n s l f, d, h => by
    rw [checkV] at h
    obtain ⟨h0, h⟩ := orE_0 h
    obtain ⟨hl, hf⟩ := orE_0 h
    have h1 := ctL l _ hl
    have h2 := ctF f _ _ hf
    obtain ⟨hk, hbare, _⟩ := why0_ok h0
    obtain ⟨hll, hlf⟩ := bareB_ll hbare
    have hl0 : k ≠ 5 → l = [] := fun hk => List.eq_nil_of_length_eq_zero (hll (by omega))
    have hf0 : k ≠ 6 → f = [] := fun hk => List.eq_nil_of_length_eq_zero (hlf (by omega))
    rw [textV, countV]
    by_cases h5 : k = 5
    · have := hf0 (by omega)
      subst this
      subst h5
      simp [countF]
      omega
    · have := hl0 h5
      subst this
      by_cases h6 : k = 6
      · subst h6
        simp [countL]
        omega
      · have := hf0 h6
        subst this
        have hkk : k = 0 ∨ k = 1 ∨ k = 2 ∨ k = 3 ∨ k = 4 := by omega
        rcases hkk with rfl | rfl | rfl | rfl | rfl <;> simp [countL, countF]
theorem ctL : ∀ (l : List DVal) (d : Nat), checkL d l = 0 → countL l ≤ (textL l).length
  | [], _, _ => by simp [countL]
  | v :: l, d, h => by
    rw [checkL] at h
    obtain ⟨h0, h⟩ := orE_0 h
    have h1 := ctV v _ h0
    have h2 := ctL l _ h
    rw [countL, textL, List.length_append]
    omega
theorem ctF : ∀ (l : List (List UInt8 × DVal)) (d : Nat) (last : List UInt8), checkF d last l = 0 → countF l ≤ (textF l).length
  | [], _, _, _ => by simp [countF]
  | (x, v) :: l, d, last, h => by
    rw [checkF] at h
    obtain ⟨_, h⟩ := orE_0 h
    obtain ⟨h0, h⟩ := orE_0 h
    have h1 := ctV v _ h0
    have h2 := ctF l _ _ h
    rw [countF, textF, List.length_append, List.length_append]
    omega
end
set_option maxHeartbeats 4000000 in
theorem sizes_any (v : DVal) (S : Nat → Prop) (cs : List Value) (w : World) (hv : HasVal S w v cs) (hT : U8T w) (hbulk : bulkV v ≤ 1048576) :
    Calls Tryd.prog 8 #[.agg cs.toArray] w fun e' w' => e' = .returned (.bool true) ∧ Below w.heap.size w w' := by
  have HV := Lib.hid hv
  have HT := Lib.hid hT
  clear hT
  obtain ⟨V, hV⟩ : ∃ V, V = v := ⟨_, rfl⟩
  rw [← hV] at HV hbulk
  have htl := tlV V
  have hcb := cbV V
  have hct := ctV V 0
  have hwr : wrP V = if checkV 0 V ≠ 0 then ([], checkV 0 V) else if 16384 < (textV V).length then ([], 4) else (textV V, 0) := rfl
  obtain ⟨T, hTx⟩ : ∃ T, T = textV V := ⟨_, rfl⟩
  obtain ⟨C, hC⟩ : ∃ C, C = checkV 0 V := ⟨_, rfl⟩
  obtain ⟨Q, hQ⟩ : ∃ Q, Q = countV V := ⟨_, rfl⟩
  rw [← hTx, ← hC] at hwr
  rw [← hTx] at htl
  rw [← hQ] at hcb
  rw [← hQ, ← hTx, ← hC] at hct
  have hT40 : (textV V).length ≤ 1099511627776 := by rw [← hTx]; omega
  have HT40 := Lib.hid hT40
  have HW := Lib.hid hwr
  have HC := Lib.hid hC
  have HQ := Lib.hid hQ
  have HCT := Lib.hid hct
  clear hTx hC hQ hwr hct hT40
  obtain ⟨k, b, n, s, l, f⟩ := v
  obtain ⟨pl, cl, pf, cf, rfl, _, _, _⟩ := hasVal_mk.1 hv
  clear hv hV
  obtain ⟨nl, hnl⟩ : ∃ nl, nl = l.length := ⟨_, rfl⟩
  obtain ⟨nf, hnf⟩ : ∃ nf, nf = f.length := ⟨_, rfl⟩
  show Calls Tryd.prog 8 #[.agg #[.int .u8 (k : Int), .bool b, .int .i64 n, .string (bs s), .slice pl l.length cl, .slice pf f.length cf]] w _
  rw [← hnl, ← hnf] at HV ⊢
  clear hnl hnf
  have hbA : Below w.heap.size w (w.alloc (.cells #[.int .u8 (k : Int), .bool b, .int .i64 n, .string (bs s), .slice pl nl cl, .slice pf nf cf] 26)) := (Below.refl _ _).alloc (Nat.le_refl _) _
  have HBA := Lib.hid hbA
  clear hbA
  go_enter Tryd.func8, Tryd.ntmps8
  go_wp2_with fail
  go_at_call 14
  refine (lives_any _ (U8T_ext HT.out HBA.out)).mono ?_
  rintro e' w1 ⟨rfl, hb⟩
  have hd1 : IsBlk w1 w.heap.size #[.int .u8 (k : Int), .bool b, .int .i64 n, .string (bs s), .slice pl nl cl, .slice pf nf cf] 26 := (IsBlk.new w _ _).ext hb
  have hbw := below_ext HBA.out hb
  have c0 : w1.cell? ⟨w.heap.size, 0, none⟩ = some (.int .u8 (k : Int)) := hd1.cell rfl
  have c1 : w1.cell? ⟨w.heap.size, 1, none⟩ = some (.bool b) := hd1.cell rfl
  have c2 : w1.cell? ⟨w.heap.size, 2, none⟩ = some (.int .i64 n) := hd1.cell rfl
  have c3 : w1.cell? ⟨w.heap.size, 3, none⟩ = some (.string (bs s)) := hd1.cell rfl
  have c4 : w1.cell? ⟨w.heap.size, 4, none⟩ = some (.slice pl nl cl) := hd1.cell rfl
  have c5 : w1.cell? ⟨w.heap.size, 5, none⟩ = some (.slice pf nf cf) := hd1.cell rfl
  have HD1 := Lib.hid hd1
  have HB1 := Lib.hid hbw
  clear hb hbw hd1
  go_wp2_with fail
  go_at_call 10
  refine (write_any V S _ _ (HV.out.ext HB1.out) (U8T_ext HT.out HB1.out) HT40.out).mono ?_
  rintro e' w2 ⟨he, hb⟩
  have hd2 := HD1.out.ext hb
  have hbw := below_ext HB1.out hb
  clear c0 c1 c2 c3 c4 c5
  have c0 : w2.cell? ⟨w.heap.size, 0, none⟩ = some (.int .u8 (k : Int)) := hd2.cell rfl
  have c1 : w2.cell? ⟨w.heap.size, 1, none⟩ = some (.bool b) := hd2.cell rfl
  have c2 : w2.cell? ⟨w.heap.size, 2, none⟩ = some (.int .i64 n) := hd2.cell rfl
  have c3 : w2.cell? ⟨w.heap.size, 3, none⟩ = some (.string (bs s)) := hd2.cell rfl
  have c4 : w2.cell? ⟨w.heap.size, 4, none⟩ = some (.slice pl nl cl) := hd2.cell rfl
  have c5 : w2.cell? ⟨w.heap.size, 5, none⟩ = some (.slice pf nf cf) := hd2.cell rfl
  have HB2 := Lib.hid hbw
  clear hb hbw hd2
  rw [HW.out] at he
  have he2 : (bs []).toList.isEmpty = true := by rw [tl_bs]; rfl
  by_cases hc : C = 0
  · rw [if_neg (by simpa using hc)] at he
    have hct := HCT.out hc.symm.symm
    by_cases h16 : 16384 < T.length
    · rw [if_pos h16] at he
      clear h16 hct
      subst he
      subst hc
      go_wp2_with fail
      go_at_call 20
      refine (check_any V S _ _ (HV.out.ext HB2.out) (U8T_ext HT.out HB2.out)).mono ?_
      rintro e' w3 ⟨he, hb⟩
      rw [← HC.out] at he
      subst he
      have HB3 := Lib.hid (below_ext HB2.out hb)
      clear hb c0 c1 c2 c3 c4 c5
      go_wp2
      go_ret
      exact ⟨rfl, HB3.out⟩
    · rw [if_neg h16] at he
      have hI : (T.length : Int) ≤ 16384 := by omega
      have hQI : (Q : Int) ≤ (T.length : Int) := by omega
      have hsT := bs_size T
      clear h16 hct
      subst he
      subst hc
      go_wp2_with fail
      go_at_call 21
      refine (count_any V S _ _ (HV.out.ext HB2.out) (by rw [← HQ.out]; omega)).mono ?_
      rintro e' w3 ⟨he, hb⟩
      rw [← HQ.out] at he
      subst he
      have HB3 := Lib.hid (below_ext HB2.out hb)
      clear hb c0 c1 c2 c3 c4 c5
      go_wp2
      go_ret
      exact ⟨rfl, HB3.out⟩
  · rw [if_pos (by simpa using hc)] at he
    subst he
    go_wp2_with fail
    go_at_call 20
    refine (check_any V S _ _ (HV.out.ext HB2.out) (U8T_ext HT.out HB2.out)).mono ?_
    rintro e' w3 ⟨he, hb⟩
    rw [← HC.out] at he
    subst he
    have HB3 := Lib.hid (below_ext HB2.out hb)
    clear hb c0 c1 c2 c3 c4 c5
    go_wp2
    go_ret
    exact ⟨rfl, HB3.out⟩
end Go.Proofs.YtghkeilgdmnnlaaDoor
