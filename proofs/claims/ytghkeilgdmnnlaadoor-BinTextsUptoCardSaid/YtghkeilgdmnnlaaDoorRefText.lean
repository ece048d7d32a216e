/- codicilref03.text, Write. Conditions: the value lies in memory, is right, and its text is no longer than 2^40 bytes. -/
import Derived.Test.YtghkeilgdmnnlaaDoorRefChk2
import Derived.Test.YtghkeilgdmnnlaaDoorRefBin
set_option linter.unusedVariables false
set_option linter.unusedSimpArgs false
namespace Go.Proofs.YtghkeilgdmnnlaaDoor
open Go Go.RowKit Go.BigFrame
set_option maxRecDepth 100000

theorem orE_0 {a b : Int} (h : orE a b = 0) : a = 0 ∧ b = 0 := by
  unfold orE at h
  split at h
  · exact ⟨by assumption, h⟩
  · exact absurd h (by assumption)
theorem checkL_mem {d : Nat} : ∀ {l : List DVal}, checkL d l = 0 → ∀ v ∈ l, checkV d v = 0
  | [], _, v, hv => by cases hv
  | a :: l, h, v, hv => by
    rw [checkL] at h
    rcases List.mem_cons.1 hv with rfl | hv
    · exact (orE_0 h).1
    · exact checkL_mem (orE_0 h).2 v hv
theorem checkF_mem {d : Nat} : ∀ {f : List (List UInt8 × DVal)} {last : List UInt8}, checkF d last f = 0 → ∀ p ∈ f, checkV d p.2 = 0
  | [], _, _, p, hp => by cases hp
  | (x, v) :: f, last, h, p, hp => by
    rw [checkF] at h
    have h2 := orE_0 (orE_0 h).2
    rcases List.mem_cons.1 hp with rfl | hp
    · exact h2.1
    · exact checkF_mem h2.2 p hp
theorem check_parts {d k : Nat} {b : Bool} {n : Int} {s : List UInt8} {l : List DVal} {f : List (List UInt8 × DVal)} (h : checkV d (.mk k b n s l f) = 0) :
    k < 7 ∧ s.length ≤ 1024 ∧ l.length ≤ 64 ∧ f.length ≤ 64 ∧ checkL (d + 1) l = 0 ∧ checkF (d + 1) [] f = 0 := by
  rw [checkV] at h
  obtain ⟨h0, h1⟩ := orE_0 h
  obtain ⟨h2, h3⟩ := orE_0 h1
  obtain ⟨a1, _, a2, _, a3, a4, _⟩ := why0_ok h0
  exact ⟨by omega, a2, a3, a4, h2, h3⟩
theorem bs_cons (c : UInt8) (l : List UInt8) : bs (c :: l) = bs [c] ++ bs l := by rw [bs_app]; rfl
theorem bs_cons2 (c : UInt8) (l m : List UInt8) : bs (c :: (l ++ m)) = bs [c] ++ bs l ++ bs m := by rw [bs_app, bs_app]; rfl
theorem textL_drop {l : List DVal} {i : Nat} (h : i < l.length) : textL (l.drop i) = textV l[i] ++ textL (l.drop (i + 1)) := by
  rw [List.drop_eq_getElem_cons h, textL]
theorem textF_drop {l : List (List UInt8 × DVal)} {i : Nat} (h : i < l.length) : textF (l.drop i) = (bytesL l[i].1 ++ textV l[i].2) ++ textF (l.drop (i + 1)) := by
  rw [List.drop_eq_getElem_cons h]
  generalize l[i] = p
  obtain ⟨x, v⟩ := p
  rw [textF]
def TextOk (a : DVal) : Prop := ∀ (d : Nat) (S : Nat → Prop) (cs : List Value) (w : World), HasVal S w a cs → checkV d a = 0 → (textV a).length ≤ 1099511627776 →
  Calls Tryd.prog 26 #[.agg cs.toArray] w fun e' w' => e' = .returned (.string (bs (textV a))) ∧ Below w.heap.size w w'
set_option maxHeartbeats 4000000 in
theorem ref_text_step (k : Nat) (b : Bool) (n : Int) (s : List UInt8) (l : List DVal) (f : List (List UInt8 × DVal)) (ihL : ∀ v ∈ l, TextOk v) (ihF : ∀ p ∈ f, TextOk p.2) : TextOk (.mk k b n s l f) := by
  intro d S cs w hv hck hbig
  obtain ⟨pl, cl, pf, cf, rfl, hbd, hL, hF⟩ := hasVal_mk.1 hv
  clear hv
  obtain ⟨hk7, hs, hll, hlf, hckL, hckF⟩ := check_parts hck
  clear hck
  have hnlo := hbd.2.1
  have hnhi := hbd.2.2.1
  clear hbd
  obtain ⟨R, hR⟩ : ∃ R, R = textV (.mk k b n s l f) := ⟨_, rfl⟩
  rw [← hR] at hbig ⊢
  rw [textV] at hR
  show Calls Tryd.prog 26 #[.agg #[.int .u8 (k : Int), .bool b, .int .i64 n, .string (bs s), .slice pl l.length cl, .slice pf f.length cf]] w _
  obtain ⟨nl, hnl⟩ : ∃ nl, nl = l.length := ⟨_, rfl⟩
  obtain ⟨nf, hnf⟩ : ∃ nf, nf = f.length := ⟨_, rfl⟩
  rw [← hnl, ← hnf]
  rw [← hnl] at hll hR
  rw [← hnf] at hlf hR
  have HNL := Lib.hid hnl
  have HNF := Lib.hid hnf
  have HL := Lib.hid hL
  have HF := Lib.hid hF
  have HIL := Lib.hid ihL
  have HIF := Lib.hid ihF
  have HCL := Lib.hid (checkL_mem hckL)
  have HCF := Lib.hid (checkF_mem hckF)
  have hsz := bs_size s
  clear hnl hnf hL hF ihL ihF hckL hckF
  have hk : k = 0 ∨ k = 1 ∨ k = 2 ∨ k = 3 ∨ k = 4 ∨ k = 5 ∨ k = 6 := by omega
  clear hk7
  rcases hk with rfl | rfl | rfl | rfl | rfl | rfl | rfl
  · have HR2 : Hid (R = [0]) := Lib.hid (by rw [hR, if_pos rfl])
    clear hR
    go_enter Tryd.func26, Tryd.ntmps26
    go_wp2
    go_ret
    exact ⟨by rw [HR2.out]; rfl, (Below.refl _ _).alloc (Nat.le_refl _) _⟩
  · have HR2 : Hid (R = [if b then 2 else 1]) := Lib.hid (by rw [hR, if_neg (by decide), if_pos rfl])
    clear hR
    cases b
    all_goals
      go_enter Tryd.func26, Tryd.ntmps26
      go_wp2
      go_ret
      exact ⟨by rw [HR2.out]; rfl, (Below.refl _ _).alloc (Nat.le_refl _) _⟩
  · have HR2 : Hid (R = 3 :: numL (zigN n)) := Lib.hid (by rw [hR, if_neg (by decide), if_neg (by decide), if_pos rfl])
    clear hR
    have hzl := zigN_lt hnlo hnhi
    have hsN := bs_size (numL (zigN n))
    have hn10 := numL_length (zigN n)
    go_enter Tryd.func26, Tryd.ntmps26
    go_wp2_with fail
    go_at_call 46
    refine (ref_zig_any n _ hnlo hnhi).mono ?_
    rintro e' w1 ⟨rfl, rfl⟩
    go_wp2_with fail
    go_at_call 19
    refine (ref_number_any (zigN n) _ hzl).mono ?_
    rintro e' w1 ⟨rfl, hb⟩
    have HB := Lib.hid (below_ext ((Below.refl _ _).alloc (Nat.le_refl _) _) hb)
    clear hb
    go_wp2
    go_ret
    exact ⟨by rw [HR2.out, bs_cons]; rfl, HB.out⟩
  · have HR2 : Hid (R = 4 :: bytesL s) := Lib.hid (by rw [hR]; rfl)
    clear hR
    have hsN := bs_size (bytesL s)
    have hbl : (bytesL s).length ≤ s.length + 10 := by have := numL_length s.length; rw [bytesL, List.length_append]; omega
    go_enter Tryd.func26, Tryd.ntmps26
    go_wp2_with fail
    go_at_call 47
    refine (ref_bytes_any s _ (by omega)).mono ?_
    rintro e' w1 ⟨rfl, hb⟩
    have HB := Lib.hid (below_ext ((Below.refl _ _).alloc (Nat.le_refl _) _) hb)
    clear hb
    go_wp2
    go_ret
    exact ⟨by rw [HR2.out, bs_cons]; rfl, HB.out⟩
  · have HR2 : Hid (R = 5 :: bytesL s) := Lib.hid (by rw [hR]; rfl)
    clear hR
    have hsN := bs_size (bytesL s)
    have hbl : (bytesL s).length ≤ s.length + 10 := by have := numL_length s.length; rw [bytesL, List.length_append]; omega
    go_enter Tryd.func26, Tryd.ntmps26
    go_wp2_with fail
    go_at_call 47
    refine (ref_bytes_any s _ (by omega)).mono ?_
    rintro e' w1 ⟨rfl, hb⟩
    have HB := Lib.hid (below_ext ((Below.refl _ _).alloc (Nat.le_refl _) _) hb)
    clear hb
    go_wp2
    go_ret
    exact ⟨by rw [HR2.out, bs_cons]; rfl, HB.out⟩
  · have HR2 : Hid (R = 6 :: (numL nl ++ textL l)) := Lib.hid (by rw [hR]; rfl)
    clear hR
    rw [show ((5 : Nat) : Int) = 5 from rfl]
    obtain ⟨T, hT⟩ : ∃ T, T = textL l := ⟨_, rfl⟩
    have hTl : T.length ≤ 1099511627776 := by
      have := congrArg List.length HR2.out
      rw [List.length_cons, List.length_append, ← hT] at this
      omega
    have HT := Lib.hid hT; clear hT
    have hn10 := numL_length nl
    have hsN := bs_size (numL nl)
    go_enter Tryd.func26, Tryd.ntmps26
    go_upto_region 14 with (fail)
    generalize hW0 : World.alloc w _ = W0
    have hd1 : IsBlk W0 w.heap.size #[.int .u8 5, .bool b, .int .i64 n, .string (bs s), .slice pl nl cl, .slice pf nf cf] 26 := by rw [← hW0]; exact IsBlk.new _ _ _
    have hb0 : Below w.heap.size w W0 := by rw [← hW0]; exact (Below.refl _ _).alloc (Nat.le_refl _) _
    have hlt1 : w.heap.size < W0.heap.size := hd1.lt
    clear hW0
    have c14 : W0.cell? ⟨w.heap.size, 4, none⟩ = some (.slice pl nl cl) := hd1.cell rfl
    have HD1 := Lib.hid hd1
    have HB0 := Lib.hid hb0
    clear hd1 hb0
    go_wp2
    clear c14
    go_loopw [38, 3] (fun i v wr => ∃ (j : Nat) (P : List UInt8), i = .int .i64 j ∧ v = .string (bs P) ∧ j ≤ nl ∧ P ++ textL (l.drop j) = T ∧ Below W0.heap.size W0 wr) (fun i _ _ => nl - (intOf i).toNat)
    case atStart => exact ⟨0, [], rfl, rfl, by omega, HT.out.symm, Below.refl _ _⟩
    case round =>
    obtain ⟨j, P, rfl, rfl, hj, hrel, hbw⟩ := hrel
    have hwr := hbw.size
    have HBW := Lib.hid hbw
    clear hbw
    have hP := bs_size P
    by_cases hlt : j < nl
    · have hj1 : j < l.length := by rw [← HNL.out]; exact hlt
      have hbwr := Below.trans HB0.out (HBW.out.mono (by omega))
      obtain ⟨g1, o1, cs1, hp1, hc1, hv1⟩ := (HL.out.ext hbwr) j hj1
      have hok := HIL.out _ (List.getElem_mem hj1)
      have hck := HCL.out _ (List.getElem_mem hj1)
      rw [textL_drop hj1] at hrel
      generalize l[j] = u1 at hv1 hok hrel hck
      obtain ⟨k1, b1, n1, s1, l1, f1⟩ := u1
      obtain ⟨q, hq⟩ : ∃ q, q = textV (.mk k1 b1 n1 s1 l1 f1) := ⟨_, rfl⟩
      rw [← hq, ← List.append_assoc] at hrel
      have hlen : P.length + q.length ≤ 1099511627776 := by
        have := congrArg List.length hrel
        rw [List.length_append, List.length_append] at this
        omega
      have hqs := bs_size q
      have HQ := Lib.hid hq
      have HOK := Lib.hid hok
      have HCK := Lib.hid hck
      have HREL2 := Lib.hid hrel
      have HV1 := Lib.hid hv1
      obtain ⟨pl1, cl1, pf1, cf1, rfl, _, _, _⟩ := hasVal_mk.1 hv1
      obtain ⟨d0, d1, d2, d3, d4, d5⟩ := hc1.six
      have hg1 := hc1.2.1
      clear hv1 hok hc1 hbwr hrel hq hck
      subst hp1
      obtain ⟨m1, hm1⟩ : ∃ m1, m1 = l1.length := ⟨_, rfl⟩
      obtain ⟨m2, hm2⟩ : ∃ m2, m2 = f1.length := ⟨_, rfl⟩
      rw [← hm1, ← hm2] at HV1
      rw [← hm1] at d4
      rw [← hm2] at d5
      clear hm1 hm2
      have hbx : Below wr.heap.size wr (wr.alloc (.cells #[.int .u8 (k1 : Int), .bool b1, .int .i64 n1, .string (bs s1), .slice pl1 m1 cl1, .slice pf1 m2 cf1] 26)) := (Below.refl _ _).alloc (Nat.le_refl _) _
      have HBX := Lib.hid hbx
      clear hbx
      go_wp2_with fail
      go_at_call 26
      refine (HOK.out _ S _ _ (HV1.out.ext HBX.out) HCK.out (by rw [← HQ.out]; omega)).mono ?_
      rintro e' w1 ⟨he, hb⟩
      rw [← HQ.out] at he
      subst he
      have HB1 := Lib.hid (below_ext HBW.out (below_ext HBX.out hb))
      clear hb d0 d1 d2 d3 d4 d5
      go_wp2
      go_roundw
      case rel => exact ⟨j + 1, P ++ q, by go_num, by rw [bs_app], by omega, HREL2.out, HB1.out⟩
      case measure => simp [intOf]; omega
    · have hrel2 : P = T := by
        rw [List.drop_eq_nil_of_le (by rw [← HNL.out]; omega), textL, List.append_nil] at hrel
        exact hrel
      clear hrel
      subst hrel2
      have c15 : wr.cell? ⟨w.heap.size, 4, none⟩ = some (.slice pl nl cl) := (HD1.out.below HBW.out hlt1).cell rfl
      go_wp2_with fail
      go_at_call 19
      refine (ref_number_any nl _ (by omega)).mono ?_
      rintro e' w1 ⟨rfl, hb⟩
      have HB := Lib.hid (Below.trans HB0.out ((below_ext HBW.out hb).mono (by omega)))
      clear hb c15
      go_wp2
      go_ret
      exact ⟨by rw [HR2.out, ← HT.out, bs_cons2]; rfl, HB.out⟩
  · have HR2 : Hid (R = 7 :: (numL nf ++ textF f)) := Lib.hid (by rw [hR]; rfl)
    clear hR
    rw [show ((6 : Nat) : Int) = 6 from rfl]
    obtain ⟨T, hT⟩ : ∃ T, T = textF f := ⟨_, rfl⟩
    have hTl : T.length ≤ 1099511627776 := by
      have := congrArg List.length HR2.out
      rw [List.length_cons, List.length_append, ← hT] at this
      omega
    have HT := Lib.hid hT; clear hT
    have hn10 := numL_length nf
    have hsN := bs_size (numL nf)
    go_enter Tryd.func26, Tryd.ntmps26
    go_upto_region 21 with (fail)
    generalize hW0 : World.alloc w _ = W0
    have hd1 : IsBlk W0 w.heap.size #[.int .u8 6, .bool b, .int .i64 n, .string (bs s), .slice pl nl cl, .slice pf nf cf] 26 := by rw [← hW0]; exact IsBlk.new _ _ _
    have hb0 : Below w.heap.size w W0 := by rw [← hW0]; exact (Below.refl _ _).alloc (Nat.le_refl _) _
    have hlt1 : w.heap.size < W0.heap.size := hd1.lt
    clear hW0
    have c14 : W0.cell? ⟨w.heap.size, 5, none⟩ = some (.slice pf nf cf) := hd1.cell rfl
    have HD1 := Lib.hid hd1
    have HB0 := Lib.hid hb0
    clear hd1 hb0
    go_wp2
    clear c14
    go_loopw [60, 3] (fun i v wr => ∃ (j : Nat) (P : List UInt8), i = .int .i64 j ∧ v = .string (bs P) ∧ j ≤ nf ∧ P ++ textF (f.drop j) = T ∧ Below W0.heap.size W0 wr) (fun i _ _ => nf - (intOf i).toNat)
    case atStart => exact ⟨0, [], rfl, rfl, by omega, HT.out.symm, Below.refl _ _⟩
    case round =>
    obtain ⟨j, P, rfl, rfl, hj, hrel, hbw⟩ := hrel
    have hwr := hbw.size
    have HBW := Lib.hid hbw
    clear hbw
    have hP := bs_size P
    by_cases hlt : j < nf
    · have hj1 : j < f.length := by rw [← HNF.out]; exact hlt
      have hbwr := Below.trans HB0.out (HBW.out.mono (by omega))
      obtain ⟨g1, o1, cs1, hp1, ⟨hxl, hc1⟩, hv1⟩ := (HF.out.ext hbwr) j hj1
      have hok := HIF.out _ (List.getElem_mem hj1)
      have hck := HCF.out _ (List.getElem_mem hj1)
      rw [textF_drop hj1] at hrel
      generalize f[j] = p1 at hv1 hok hrel hck hxl hc1
      obtain ⟨x1, u1⟩ := p1
      simp only [] at hv1 hok hrel hck hxl hc1
      obtain ⟨k1, b1, n1, s1, l1, f1⟩ := u1
      obtain ⟨q, hq⟩ : ∃ q, q = textV (.mk k1 b1 n1 s1 l1 f1) := ⟨_, rfl⟩
      obtain ⟨y1, hy1⟩ : ∃ y1, y1 = bytesL x1 := ⟨_, rfl⟩
      rw [← hq, ← hy1, ← List.append_assoc] at hrel
      have hlen : P.length + (y1.length + q.length) ≤ 1099511627776 := by
        have := congrArg List.length hrel
        rw [List.length_append, List.length_append, List.length_append] at this
        omega
      have hqs := bs_size q
      have hys := bs_size y1
      have HQ := Lib.hid hq
      have HY := Lib.hid hy1
      have HOK := Lib.hid hok
      have HCK := Lib.hid hck
      have HREL2 := Lib.hid hrel
      have HV1 := Lib.hid hv1
      obtain ⟨pl1, cl1, pf1, cf1, rfl, _, _, _⟩ := hasVal_mk.1 hv1
      obtain ⟨d0, d1, d2, d3, d4, d5, d6⟩ := hc1.seven
      have hg1 := hc1.2.1
      clear hv1 hok hc1 hbwr hrel hq hck hy1
      subst hp1
      obtain ⟨m1, hm1⟩ : ∃ m1, m1 = l1.length := ⟨_, rfl⟩
      obtain ⟨m2, hm2⟩ : ∃ m2, m2 = f1.length := ⟨_, rfl⟩
      rw [← hm1, ← hm2] at HV1
      rw [← hm1] at d5
      rw [← hm2] at d6
      clear hm1 hm2
      go_upto_region 24 with (fail)
      generalize hW2 : World.alloc wr _ = W2
      have hblk2 : IsBlk W2 wr.heap.size #[.string (bs x1), .int .u8 (k1 : Int), .bool b1, .int .i64 n1, .string (bs s1), .slice pl1 m1 cl1, .slice pf1 m2 cf1] 61 := by rw [← hW2]; exact IsBlk.new _ _ _
      have hb2 : Below wr.heap.size wr W2 := by rw [← hW2]; exact (Below.refl _ _).alloc (Nat.le_refl _) _
      have hlt2 : wr.heap.size < W2.heap.size := hblk2.lt
      clear hW2 d0 d1 d2 d3 d4 d5 d6
      have HB2 := Lib.hid hb2; clear hb2
      have d0 : W2.cell? ⟨wr.heap.size, 0, none⟩ = some (.string (bs x1)) := hblk2.cell rfl
      have d1 : W2.cell? ⟨wr.heap.size, 1, none⟩ = some (.int .u8 (k1 : Int)) := hblk2.cell rfl
      have d2 : W2.cell? ⟨wr.heap.size, 2, none⟩ = some (.bool b1) := hblk2.cell rfl
      have d3 : W2.cell? ⟨wr.heap.size, 3, none⟩ = some (.int .i64 n1) := hblk2.cell rfl
      have d4 : W2.cell? ⟨wr.heap.size, 4, none⟩ = some (.string (bs s1)) := hblk2.cell rfl
      have d5 : W2.cell? ⟨wr.heap.size, 5, none⟩ = some (.slice pl1 m1 cl1) := hblk2.cell rfl
      have d6 : W2.cell? ⟨wr.heap.size, 6, none⟩ = some (.slice pf1 m2 cf1) := hblk2.cell rfl
      clear hblk2
      refine mix_start [] (Cls W2) (by kernel_rfl) (Cls.of ((Below.refl _ _).drew)) ?_
      refine mix_flt (by kernel_rfl) [0, 1, 2, 4, 5] 5 _ _ (by kernel_rfl) ?_
      simp only [opsAt, List.map_cons, List.map_nil, List.toList_toArray, List.getD_cons_succ, List.getD_cons_zero]
      unfold Cls
      repeat (go_big_quiet_step (fail))
      refine wpQuiet_nil ?_
      (try rw [← Cls_def])
      refine mix_ch (i := 3) (fuel := 4) (by kernel_rfl) _ rfl (fun w1 hw1 => ?_)
      go_wp2_with (go_at_call 47; refine (ref_bytes_any x1 _ (by omega)).mono ?_; rintro e' w' ⟨he, hb⟩; rw [← HY.out] at he; subst he)
      refine Then.same (hw1.trans hb) ?_
      refine mix_ch (i := 6) (fuel := 3) (by kernel_rfl) _ rfl (fun w1 hw1 => ?_)
      go_wp2_with (go_at_call 26; refine (HOK.out _ S _ _ (HV1.out.ext (below_ext HB2.out hw1.below)) HCK.out (by rw [← HQ.out]; omega)).mono ?_; rintro e' w' ⟨he, hb⟩; rw [← HQ.out] at he; subst he)
      refine Then.same (hw1.trans hb) ?_
      refine mix_flt (by kernel_rfl) [7, 8, 9] 0 _ _ (by kernel_rfl) ?_
      simp only [opsAt, List.map_cons, List.map_nil, List.toList_toArray, List.getD_cons_succ, List.getD_cons_zero]
      unfold Cls
      repeat (go_big_quiet_step (fail))
      refine wpQuiet_nil ?_
      (try rw [← Cls_def])
      refine mix_end [] (by kernel_rfl) (fun w1 hw1 => ?_)
      refine wpList_nil ?_
      refine Calm.normal ?_
      have HB1 := Lib.hid (below_ext HBW.out (below_ext HB2.out hw1.below))
      clear hb hw1 d0 d1 d2 d3 d4 d5 d6
      go_wp2
      go_roundw
      case rel => exact ⟨j + 1, P ++ (y1 ++ q), by go_num, by rw [bs_app, bs_app], by omega, HREL2.out, HB1.out⟩
      case measure => simp [intOf]; omega
    · have hrel2 : P = T := by
        rw [List.drop_eq_nil_of_le (by rw [← HNF.out]; omega), textF, List.append_nil] at hrel
        exact hrel
      clear hrel
      subst hrel2
      have c15 : wr.cell? ⟨w.heap.size, 5, none⟩ = some (.slice pf nf cf) := (HD1.out.below HBW.out hlt1).cell rfl
      go_wp2_with fail
      go_at_call 19
      refine (ref_number_any nf _ (by omega)).mono ?_
      rintro e' w1 ⟨rfl, hb⟩
      have HB := Lib.hid (Below.trans HB0.out ((below_ext HBW.out hb).mono (by omega)))
      clear hb c15
      go_wp2
      go_ret
      exact ⟨by rw [HR2.out, ← HT.out, bs_cons2]; rfl, HB.out⟩
theorem ref_text_all : ∀ (m : Nat) (v : DVal), SizeOf.sizeOf v < m → TextOk v := by
  intro m
  induction m with
  | zero => intro v h; omega
  | succ m ih =>
    intro v h
    obtain ⟨k, b, n, s, l, f⟩ := v
    exact ref_text_step k b n s l f (fun v hv => ih v (by have := DVal.size_l (k := k) (b := b) (n := n) (s := s) (f := f) v hv; omega)) (fun p hp => ih p.2 (by have := DVal.size_f (k := k) (b := b) (n := n) (s := s) (l := l) p hp; omega))
theorem ref_text_any (v : DVal) : TextOk v := ref_text_all _ v (Nat.lt_succ_self _)
end Go.Proofs.YtghkeilgdmnnlaaDoor
