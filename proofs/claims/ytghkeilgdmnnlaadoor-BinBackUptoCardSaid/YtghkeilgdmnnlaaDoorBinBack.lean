/- codicillaw03.BinBack: walk and law. Conditions: the value lies in memory; utf8's tables read as the text lays them. -/
import Derived.Test.YtghkeilgdmnnlaaDoorBinRound
set_option linter.unusedVariables false
set_option linter.unusedSimpArgs false
namespace Go.Proofs.YtghkeilgdmnnlaaDoor
open Go Go.RowKit Go.BigFrame
set_option maxRecDepth 100000

theorem text_read_le (s : List UInt8) : (textV (rdV s).1).length ≤ 1099511627776 := by
  by_cases h : (rdV s).2 = 0
  · have h1 := (write_read h).1
    have h2 : (wrP (rdV s).1).2 = 0 := by rw [h1]
    have := (wrP_ok.1 h2).2
    omega
  · rw [rdV_zero h]
    decide
set_option maxHeartbeats 4000000 in
theorem back_any (v : DVal) (S : Nat → Prop) (cs : List Value) (w : World) (hv : HasVal S w v cs) (hT : U8T w) (hbv : bulkV v ≤ 1048576) (s : List UInt8) (hs : s.length ≤ 1048576) :
    Calls Tryd.prog 5 #[.agg cs.toArray, .string (bs s)] w fun e' w' => e' = .returned (.bool true) ∧ Below w.heap.size w w' := by
  have HV := Lib.hid hv
  have HT := Lib.hid hT
  clear hT
  have hsz := bs_size s
  have hrng := hv.rng
  obtain ⟨V, hV⟩ : ∃ V, V = v := ⟨_, rfl⟩
  rw [← hV] at HV hbv hrng
  have htv := tlV V
  obtain ⟨sv, yv, hwv⟩ : ∃ sv yv, wrP V = (sv, yv) := ⟨_, _, rfl⟩
  obtain ⟨VS, yS, hrs⟩ : ∃ VS yS, rdV s = (VS, yS) := ⟨_, _, rfl⟩
  have hback : yv = 0 → rdV sv = (V, 0) := fun h => by
    have := read_text (v := V) (by rw [hwv]; exact h) hrng
    rwa [hwv] at this
  have hws : yS = 0 → wrP VS = (s, 0) ∧ checkV 0 VS = 0 := fun h => by
    have := write_read (s := s) (by rw [hrs]; exact h)
    rwa [hrs] at this
  have hzs : yS ≠ 0 → VS = .zero := fun h => by
    have := rdV_zero (s := s) (by rw [hrs]; exact h)
    rwa [hrs] at this
  have hts := text_read_le s
  rw [hrs] at hts
  simp only [] at hts
  have hlv : sv.length ≤ 16384 := by
    have : sv = (wrP V).1 := by rw [hwv]
    rw [this, wrP]
    repeat' split
    all_goals (simp only [List.length_nil]; omega)
  have HTV : Hid ((textV V).length ≤ 1099511627776) := Lib.hid (by omega)
  have HTS := Lib.hid hts
  have HWV := Lib.hid hwv
  have HRS := Lib.hid hrs
  have HBACK := Lib.hid hback
  have HWS := Lib.hid hws
  have HZS := Lib.hid hzs
  clear htv hts hwv hrs hback hws hzs hrng
  obtain ⟨k1, b1, n1, s1, l1, f1⟩ := v
  obtain ⟨pl1, cl1, pf1, cf1, rfl, _, _, _⟩ := hasVal_mk.1 hv
  clear hv hV
  obtain ⟨nl1, h1⟩ : ∃ nl, nl = l1.length := ⟨_, rfl⟩
  obtain ⟨nf1, h2⟩ : ∃ nf, nf = f1.length := ⟨_, rfl⟩
  show Calls Tryd.prog 5 #[.agg #[.int .u8 (k1 : Int), .bool b1, .int .i64 n1, .string (bs s1), .slice pl1 l1.length cl1, .slice pf1 f1.length cf1], .string (bs s)] w _
  rw [← h1, ← h2] at HV ⊢
  clear h1 h2
  go_enter Tryd.func5, Tryd.ntmps5
  go_upto_region 1 with (fail)
  generalize hW0 : World.alloc w _ = W0
  have hd1 : IsBlk W0 w.heap.size #[.int .u8 (k1 : Int), .bool b1, .int .i64 n1, .string (bs s1), .slice pl1 nl1 cl1, .slice pf1 nf1 cf1] 26 := by rw [← hW0]; exact IsBlk.new _ _ _
  have hb0 : Below w.heap.size w W0 := by rw [← hW0]; exact (Below.refl _ _).alloc (Nat.le_refl _) _
  clear hW0
  have HD1 := Lib.hid hd1
  have HB0 := Lib.hid hb0
  clear hd1 hb0
  go_wp2_with fail
  go_at_call 14
  refine (lives_any _ (U8T_ext HT.out HB0.out)).mono ?_
  rintro e' w1 ⟨rfl, hb⟩
  have hd1 := HD1.out.ext hb
  have HB1 := Lib.hid (below_ext HB0.out hb)
  clear hb HD1 HB0
  have HD1 := Lib.hid hd1
  have c0 : w1.cell? ⟨w.heap.size, 0, none⟩ = some (.int .u8 (k1 : Int)) := hd1.cell rfl
  have c1 : w1.cell? ⟨w.heap.size, 1, none⟩ = some (.bool b1) := hd1.cell rfl
  have c2 : w1.cell? ⟨w.heap.size, 2, none⟩ = some (.int .i64 n1) := hd1.cell rfl
  have c3 : w1.cell? ⟨w.heap.size, 3, none⟩ = some (.string (bs s1)) := hd1.cell rfl
  have c4 : w1.cell? ⟨w.heap.size, 4, none⟩ = some (.slice pl1 nl1 cl1) := hd1.cell rfl
  have c5 : w1.cell? ⟨w.heap.size, 5, none⟩ = some (.slice pf1 nf1 cf1) := hd1.cell rfl
  clear hd1
  go_wp2_with fail
  go_at_call 10
  refine (write_any V S _ _ (HV.out.ext HB1.out) (U8T_ext HT.out HB1.out) HTV.out).mono ?_
  rintro e' w2 ⟨he, hb⟩
  rw [HWV.out] at he
  subst he
  have HD2 := Lib.hid (HD1.out.ext hb)
  have HB2 := Lib.hid (below_ext HB1.out hb)
  clear hb HD1 HB1 c0 c1 c2 c3 c4 c5
  by_cases hy1 : yv = 0
  · have hbk := HBACK.out hy1
    have HBK := Lib.hid hbk
    clear hbk
    subst hy1
    go_wp2_with fail
    go_at_call 12
    refine (read_any sv w2 (U8T_ext HT.out HB2.out) (by omega)).mono ?_
    rintro e' w3 ⟨cs, he, hval, hb⟩
    rw [HBK.out] at he hval
    subst he
    have HV3 := Lib.hid hval
    have HD3 := Lib.hid (HD2.out.ext hb)
    have HB3 := Lib.hid (below_ext HB2.out hb)
    obtain ⟨V', hV'⟩ : ∃ V', V' = V := ⟨_, rfl⟩
    rw [← hV'] at hval
    obtain ⟨k2, b2, n2, s2, l2, f2⟩ := V'
    obtain ⟨pl2, cl2, pf2, cf2, rfl, _, _, _⟩ := hasVal_mk.1 hval
    clear hval hb hV'
    obtain ⟨nl2, h3⟩ : ∃ nl, nl = l2.length := ⟨_, rfl⟩
    obtain ⟨nf2, h4⟩ : ∃ nf, nf = f2.length := ⟨_, rfl⟩
    rw [← h3, ← h4] at HV3 ⊢
    clear h3 h4
    go_upto_region 6 with (fail)
    generalize hW4 : World.alloc w3 _ = W4
    have hd4 : IsBlk W4 w3.heap.size #[.int .u8 (k2 : Int), .bool b2, .int .i64 n2, .string (bs s2), .slice pl2 nl2 cl2, .slice pf2 nf2 cf2] 26 := by rw [← hW4]; exact IsBlk.new _ _ _
    have hb4 : Below w3.heap.size w3 W4 := by rw [← hW4]; exact (Below.refl _ _).alloc (Nat.le_refl _) _
    clear hW4
    have HV4 := Lib.hid (HV3.out.ext hb4)
    have HB4 := Lib.hid (below_ext HB3.out hb4)
    have hd1 := HD3.out.ext hb4
    have d0 : W4.cell? ⟨w3.heap.size, 0, none⟩ = some (.int .u8 (k2 : Int)) := hd4.cell rfl
    have d1 : W4.cell? ⟨w3.heap.size, 1, none⟩ = some (.bool b2) := hd4.cell rfl
    have d2 : W4.cell? ⟨w3.heap.size, 2, none⟩ = some (.int .i64 n2) := hd4.cell rfl
    have d3 : W4.cell? ⟨w3.heap.size, 3, none⟩ = some (.string (bs s2)) := hd4.cell rfl
    have d4 : W4.cell? ⟨w3.heap.size, 4, none⟩ = some (.slice pl2 nl2 cl2) := hd4.cell rfl
    have d5 : W4.cell? ⟨w3.heap.size, 5, none⟩ = some (.slice pf2 nf2 cf2) := hd4.cell rfl
    have c0 : W4.cell? ⟨w.heap.size, 0, none⟩ = some (.int .u8 (k1 : Int)) := hd1.cell rfl
    have c1 : W4.cell? ⟨w.heap.size, 1, none⟩ = some (.bool b1) := hd1.cell rfl
    have c2 : W4.cell? ⟨w.heap.size, 2, none⟩ = some (.int .i64 n1) := hd1.cell rfl
    have c3 : W4.cell? ⟨w.heap.size, 3, none⟩ = some (.string (bs s1)) := hd1.cell rfl
    have c4 : W4.cell? ⟨w.heap.size, 4, none⟩ = some (.slice pl1 nl1 cl1) := hd1.cell rfl
    have c5 : W4.cell? ⟨w.heap.size, 5, none⟩ = some (.slice pf1 nf1 cf1) := hd1.cell rfl
    clear hb4 hd4 hd1
    go_wp2_with fail
    go_at_call 15
    refine (ref_same_any V V _ _ _ _ W4 (HV.out.ext HB4.out) HV4.out).mono ?_
    rintro e' w5 ⟨he, hb⟩
    rw [(sameV_iff _ _).2 rfl] at he
    subst he
    have HB5 := Lib.hid (below_ext HB4.out hb)
    clear hb c0 c1 c2 c3 c4 c5 d0 d1 d2 d3 d4 d5 HV4 HB4 HV3 HB3 HD3
    go_wp2_with fail
    go_at_call 12
    refine (read_any s w5 (U8T_ext HT.out HB5.out) (by omega)).mono ?_
    rintro e' wr ⟨cs, he, hval, hb⟩
    rw [HRS.out] at he hval
    subst he
    have HVR := Lib.hid hval
    have HBR := Lib.hid (below_ext HB5.out hb)
    obtain ⟨kR, bR, nR, sR, lR, fR⟩ := VS
    obtain ⟨plR, clR, pfR, cfR, rfl, _, _, _⟩ := hasVal_mk.1 hval
    clear hval hb
    obtain ⟨nlR, h3⟩ : ∃ nl, nl = lR.length := ⟨_, rfl⟩
    obtain ⟨nfR, h4⟩ : ∃ nf, nf = fR.length := ⟨_, rfl⟩
    rw [← h3, ← h4] at HVR ⊢
    clear h3 h4
    go_upto_region 9 with (fail)
    generalize hW9 : World.alloc wr _ = W9
    have hd9 : IsBlk W9 wr.heap.size #[.int .u8 (kR : Int), .bool bR, .int .i64 nR, .string (bs sR), .slice plR nlR clR, .slice pfR nfR cfR] 26 := by rw [← hW9]; exact IsBlk.new _ _ _
    have hb9 : Below wr.heap.size wr W9 := by rw [← hW9]; exact (Below.refl _ _).alloc (Nat.le_refl _) _
    clear hW9
    have HV9 := Lib.hid (HVR.out.ext hb9)
    have HB9 := Lib.hid (below_ext HBR.out hb9)
    have HD9 := Lib.hid hd9
    clear hb9 HVR HBR
    have e0 : W9.cell? ⟨wr.heap.size, 0, none⟩ = some (.int .u8 (kR : Int)) := hd9.cell rfl
    have e1 : W9.cell? ⟨wr.heap.size, 1, none⟩ = some (.bool bR) := hd9.cell rfl
    have e2 : W9.cell? ⟨wr.heap.size, 2, none⟩ = some (.int .i64 nR) := hd9.cell rfl
    have e3 : W9.cell? ⟨wr.heap.size, 3, none⟩ = some (.string (bs sR)) := hd9.cell rfl
    have e4 : W9.cell? ⟨wr.heap.size, 4, none⟩ = some (.slice plR nlR clR) := hd9.cell rfl
    have e5 : W9.cell? ⟨wr.heap.size, 5, none⟩ = some (.slice pfR nfR cfR) := hd9.cell rfl
    clear hd9
    by_cases hy : yS = 0
    · have hwr := HWS.out hy
      have HWS2 := Lib.hid hwr.1
      have HCS := Lib.hid hwr.2
      clear hwr
      subst hy
      go_wp2_with fail
      go_at_call 10
      refine (write_any (.mk kR bR nR sR lR fR) _ _ W9 HV9.out (U8T_ext HT.out HB9.out) HTS.out).mono ?_
      rintro e' wa ⟨he, hb⟩
      rw [HWS2.out] at he
      subst he
      have hda := HD9.out.ext hb
      have HVA := Lib.hid (HV9.out.ext hb)
      have HBA := Lib.hid (below_ext HB9.out hb)
      clear hb e0 e1 e2 e3 e4 e5
      have e0 : wa.cell? ⟨wr.heap.size, 0, none⟩ = some (.int .u8 (kR : Int)) := hda.cell rfl
      have e1 : wa.cell? ⟨wr.heap.size, 1, none⟩ = some (.bool bR) := hda.cell rfl
      have e2 : wa.cell? ⟨wr.heap.size, 2, none⟩ = some (.int .i64 nR) := hda.cell rfl
      have e3 : wa.cell? ⟨wr.heap.size, 3, none⟩ = some (.string (bs sR)) := hda.cell rfl
      have e4 : wa.cell? ⟨wr.heap.size, 4, none⟩ = some (.slice plR nlR clR) := hda.cell rfl
      have e5 : wa.cell? ⟨wr.heap.size, 5, none⟩ = some (.slice pfR nfR cfR) := hda.cell rfl
      clear hda
      have hss : ((bs s).toList == (bs s).toList) = true := beq_self_eq_true _
      go_wp2_with fail
      go_at_call 20
      refine (check_any (.mk kR bR nR sR lR fR) _ _ wa HVA.out (U8T_ext HT.out HBA.out)).mono ?_
      rintro e' wb ⟨he, hb⟩
      rw [HCS.out] at he
      subst he
      have HBB := Lib.hid (below_ext HBA.out hb)
      clear hb e0 e1 e2 e3 e4 e5
      go_wp2
      go_ret
      exact ⟨rfl, HBB.out⟩
    · have hz := HZS.out hy
      have hyb : (yS != 0) = true := by simpa using hy
      clear hy
      rw [hz] at HV9
      go_wp2_with fail
      go_at_call 15
      refine (ref_same_any .zero .zero _ (fun _ => True) _ _ W9 HV9.out (zero_has _ W9)).mono ?_
      rintro e' wa ⟨he, hb⟩
      rw [(sameV_iff _ _).2 rfl] at he
      subst he
      have HBA := Lib.hid (below_ext HB9.out hb)
      clear hb e0 e1 e2 e3 e4 e5
      go_wp2
      go_ret
      exact ⟨rfl, HBA.out⟩
  · have hyb1 : (yv == 0) = false := by simpa using hy1
    clear hy1
    go_wp2_with fail
    go_at_call 12
    refine (read_any s w2 (U8T_ext HT.out HB2.out) (by omega)).mono ?_
    rintro e' wr ⟨cs, he, hval, hb⟩
    rw [HRS.out] at he hval
    subst he
    have HVR := Lib.hid hval
    have HBR := Lib.hid (below_ext HB2.out hb)
    obtain ⟨kR, bR, nR, sR, lR, fR⟩ := VS
    obtain ⟨plR, clR, pfR, cfR, rfl, _, _, _⟩ := hasVal_mk.1 hval
    clear hval hb
    obtain ⟨nlR, h3⟩ : ∃ nl, nl = lR.length := ⟨_, rfl⟩
    obtain ⟨nfR, h4⟩ : ∃ nf, nf = fR.length := ⟨_, rfl⟩
    rw [← h3, ← h4] at HVR ⊢
    clear h3 h4
    go_upto_region 9 with (fail)
    generalize hW9 : World.alloc wr _ = W9
    have hd9 : IsBlk W9 wr.heap.size #[.int .u8 (kR : Int), .bool bR, .int .i64 nR, .string (bs sR), .slice plR nlR clR, .slice pfR nfR cfR] 26 := by rw [← hW9]; exact IsBlk.new _ _ _
    have hb9 : Below wr.heap.size wr W9 := by rw [← hW9]; exact (Below.refl _ _).alloc (Nat.le_refl _) _
    clear hW9
    have HV9 := Lib.hid (HVR.out.ext hb9)
    have HB9 := Lib.hid (below_ext HBR.out hb9)
    have HD9 := Lib.hid hd9
    clear hb9 HVR HBR
    have e0 : W9.cell? ⟨wr.heap.size, 0, none⟩ = some (.int .u8 (kR : Int)) := hd9.cell rfl
    have e1 : W9.cell? ⟨wr.heap.size, 1, none⟩ = some (.bool bR) := hd9.cell rfl
    have e2 : W9.cell? ⟨wr.heap.size, 2, none⟩ = some (.int .i64 nR) := hd9.cell rfl
    have e3 : W9.cell? ⟨wr.heap.size, 3, none⟩ = some (.string (bs sR)) := hd9.cell rfl
    have e4 : W9.cell? ⟨wr.heap.size, 4, none⟩ = some (.slice plR nlR clR) := hd9.cell rfl
    have e5 : W9.cell? ⟨wr.heap.size, 5, none⟩ = some (.slice pfR nfR cfR) := hd9.cell rfl
    clear hd9
    by_cases hy : yS = 0
    · have hwr := HWS.out hy
      have HWS2 := Lib.hid hwr.1
      have HCS := Lib.hid hwr.2
      clear hwr
      subst hy
      go_wp2_with fail
      go_at_call 10
      refine (write_any (.mk kR bR nR sR lR fR) _ _ W9 HV9.out (U8T_ext HT.out HB9.out) HTS.out).mono ?_
      rintro e' wa ⟨he, hb⟩
      rw [HWS2.out] at he
      subst he
      have hda := HD9.out.ext hb
      have HVA := Lib.hid (HV9.out.ext hb)
      have HBA := Lib.hid (below_ext HB9.out hb)
      clear hb e0 e1 e2 e3 e4 e5
      have e0 : wa.cell? ⟨wr.heap.size, 0, none⟩ = some (.int .u8 (kR : Int)) := hda.cell rfl
      have e1 : wa.cell? ⟨wr.heap.size, 1, none⟩ = some (.bool bR) := hda.cell rfl
      have e2 : wa.cell? ⟨wr.heap.size, 2, none⟩ = some (.int .i64 nR) := hda.cell rfl
      have e3 : wa.cell? ⟨wr.heap.size, 3, none⟩ = some (.string (bs sR)) := hda.cell rfl
      have e4 : wa.cell? ⟨wr.heap.size, 4, none⟩ = some (.slice plR nlR clR) := hda.cell rfl
      have e5 : wa.cell? ⟨wr.heap.size, 5, none⟩ = some (.slice pfR nfR cfR) := hda.cell rfl
      clear hda
      have hss : ((bs s).toList == (bs s).toList) = true := beq_self_eq_true _
      go_wp2_with fail
      go_at_call 20
      refine (check_any (.mk kR bR nR sR lR fR) _ _ wa HVA.out (U8T_ext HT.out HBA.out)).mono ?_
      rintro e' wb ⟨he, hb⟩
      rw [HCS.out] at he
      subst he
      have HBB := Lib.hid (below_ext HBA.out hb)
      clear hb e0 e1 e2 e3 e4 e5
      go_wp2
      go_ret
      exact ⟨rfl, HBB.out⟩
    · have hz := HZS.out hy
      have hyb : (yS != 0) = true := by simpa using hy
      clear hy
      rw [hz] at HV9
      go_wp2_with fail
      go_at_call 15
      refine (ref_same_any .zero .zero _ (fun _ => True) _ _ W9 HV9.out (zero_has _ W9)).mono ?_
      rintro e' wa ⟨he, hb⟩
      rw [(sameV_iff _ _).2 rfl] at he
      subst he
      have HBA := Lib.hid (below_ext HB9.out hb)
      clear hb e0 e1 e2 e3 e4 e5
      go_wp2
      go_ret
      exact ⟨rfl, HBA.out⟩
end Go.Proofs.YtghkeilgdmnnlaaDoor
