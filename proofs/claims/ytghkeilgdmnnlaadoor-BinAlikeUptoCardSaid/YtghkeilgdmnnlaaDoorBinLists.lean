/- codicillaw03.BinLists: walk and law. Conditions: the values lie in memory; utf8's tables read as the text lays them. -/
import Derived.Test.YtghkeilgdmnnlaaDoorBinSizes
set_option linter.unusedVariables false
set_option linter.unusedSimpArgs false
namespace Go.Proofs.YtghkeilgdmnnlaaDoor
open Go Go.RowKit Go.BigFrame
set_option maxRecDepth 100000

theorem firstE_all {l : List Int} (h : ∀ e ∈ l, e = 0) : firstE l = 0 := by
  induction l with
  | nil => rfl
  | cons a l ih => rw [firstE, if_pos (h a (by simp))]; exact ih (fun e he => h e (by simp [he]))
theorem why0_mono {d : Nat} {k : Int} {b : Bool} {n : Int} {s : List UInt8} {ll lf : Nat} (h : why0 (d + 1) k b n s ll lf = 0) : why0 d k b n s ll lf = 0 := by
  have h0 := firstE_0 h
  refine firstE_all (fun e he => ?_)
  simp only [List.mem_cons, List.not_mem_nil, or_false] at he
  rcases he with rfl | rfl | rfl | rfl | rfl
  · exact h0 _ (by simp)
  · exact h0 _ (by simp)
  · exact h0 _ (by simp)
  · exact h0 _ (by simp)
  · have h5 := unlessE_0 (e := 10) (b := (!(k == 5 || k == 6) || decide (((d + 1 : Nat) : Int) < 6))) (by decide) (h0 _ (by simp))
    have : (!(k == 5 || k == 6) || decide ((d : Int) < 6)) = true := by
      rw [Bool.or_eq_true] at h5 ⊢
      rcases h5 with h5 | h5
      · exact Or.inl h5
      · right
        have := of_decide_eq_true h5
        exact decide_eq_true (by omega)
    rw [this]
    rfl
theorem orE_mk {a b : Int} (ha : a = 0) (hb : b = 0) : orE a b = 0 := by rw [ha, hb]; rfl
mutual
theorem ckV : ∀ (v : DVal) (d : Nat), checkV (d + 1) v = 0 → checkV d v = 0
  | .mk k b n s l f, d, h => by
    rw [checkV] at h ⊢
    obtain ⟨h0, h⟩ := orE_0 h
    obtain ⟨hl, hf⟩ := orE_0 h
    exact orE_mk (why0_mono h0) (orE_mk (ckL l _ hl) (ckF f _ _ hf))
theorem ckL : ∀ (l : List DVal) (d : Nat), checkL (d + 1) l = 0 → checkL d l = 0
  | [], _, _ => by rw [checkL]
  | v :: l, d, h => by
    rw [checkL] at h ⊢
    obtain ⟨h0, h⟩ := orE_0 h
    exact orE_mk (ckV v _ h0) (ckL l _ h)
theorem ckF : ∀ (l : List (List UInt8 × DVal)) (d : Nat) (last : List UInt8), checkF (d + 1) last l = 0 → checkF d last l = 0
  | [], _, _, _ => by rw [checkF]
  | (x, v) :: l, d, last, h => by
    rw [checkF] at h ⊢
    obtain ⟨hn, h⟩ := orE_0 h
    obtain ⟨h0, h⟩ := orE_0 h
    exact orE_mk hn (orE_mk (ckV v _ h0) (ckF l _ _ h))
end
theorem check_pair (a b : DVal) : checkV 0 (.mk 5 false 0 [] [a, b] []) = 0 → checkV 0 a = 0 ∧ checkV 0 b = 0 := by
  intro h
  rw [checkV] at h
  obtain ⟨_, h⟩ := orE_0 h
  obtain ⟨hl, _⟩ := orE_0 h
  rw [checkL, checkL] at hl
  obtain ⟨h1, hl⟩ := orE_0 hl
  obtain ⟨h2, _⟩ := orE_0 hl
  exact ⟨ckV a 0 h1, ckV b 0 h2⟩
theorem text_pair (a b : DVal) : textV (.mk 5 false 0 [] [a, b] []) = 6 :: 2 :: (textV a ++ textV b) := by
  rw [textV]
  have : numL 2 = [2] := by decide
  simp [textL, this]
theorem wrP_ok {v : DVal} : (wrP v).2 = 0 ↔ checkV 0 v = 0 ∧ (textV v).length ≤ 16384 := by
  unfold wrP
  by_cases h : checkV 0 v = 0
  · by_cases h2 : 16384 < (textV v).length
    · rw [if_neg (by simpa using h), if_pos h2]
      constructor
      · intro h3; cases h3
      · intro h3; omega
    · rw [if_neg (by simpa using h), if_neg h2]
      exact ⟨fun _ => ⟨h, by omega⟩, fun _ => rfl⟩
  · rw [if_pos h]
    exact ⟨fun h3 => absurd h3 h, fun h3 => absurd h3.1 h⟩
theorem wrP_text {v : DVal} (h : (wrP v).2 = 0) : (wrP v).1 = textV v := by
  obtain ⟨h1, h2⟩ := wrP_ok.1 h
  unfold wrP
  rw [if_neg (by simpa using h1), if_neg (by omega)]
/-- What the law comes to. -/
theorem pair_law (a b : DVal) : (((wrP a).2 ≠ 0 ∨ (wrP b).2 ≠ 0) ∧ (wrP (.mk 5 false 0 [] [a, b] [])).2 ≠ 0) ∨
    ((wrP a).2 = 0 ∧ (wrP b).2 = 0 ∧ (wrP (.mk 5 false 0 [] [a, b] [])).2 ≠ 0 ∧ (checkV 0 (.mk 5 false 0 [] [a, b] []) ≠ 0 ∨ (checkV 0 (.mk 5 false 0 [] [a, b] []) = 0 ∧ 16384 < (wrP a).1.length + (wrP b).1.length + 2))) ∨
    ((wrP a).2 = 0 ∧ (wrP b).2 = 0 ∧ (wrP (.mk 5 false 0 [] [a, b] [])).2 = 0 ∧ (wrP (.mk 5 false 0 [] [a, b] [])).1 = [6, 2] ++ (wrP a).1 ++ (wrP b).1) := by
  have hc := check_pair a b
  have ht := text_pair a b
  generalize hL : DVal.mk 5 false 0 [] [a, b] [] = L at hc ht ⊢
  have hlen : (textV L).length = (textV a).length + (textV b).length + 2 := by rw [ht]; simp
  by_cases hl : (wrP L).2 = 0
  · obtain ⟨h1, h2⟩ := wrP_ok.1 hl
    obtain ⟨ha, hb⟩ := hc h1
    have hA : (wrP a).2 = 0 := wrP_ok.2 ⟨ha, by omega⟩
    have hB : (wrP b).2 = 0 := wrP_ok.2 ⟨hb, by omega⟩
    exact Or.inr (Or.inr ⟨hA, hB, hl, by rw [wrP_text hl, wrP_text hA, wrP_text hB, ht]; simp⟩)
  · by_cases hA : (wrP a).2 = 0
    · by_cases hB : (wrP b).2 = 0
      · refine Or.inr (Or.inl ⟨hA, hB, hl, ?_⟩)
        by_cases hcl : checkV 0 L = 0
        · refine Or.inr ⟨hcl, ?_⟩
          rw [wrP_text hA, wrP_text hB]
          have : ¬ (textV L).length ≤ 16384 := fun h => hl (wrP_ok.2 ⟨hcl, h⟩)
          omega
        · exact Or.inl hcl
      · exact Or.inl ⟨Or.inr hB, hl⟩
    · exact Or.inl ⟨Or.inl hA, hl⟩
set_option maxHeartbeats 4000000 in
theorem lists_any (u v : DVal) (S S' : Nat → Prop) (cs cs' : List Value) (w : World) (hu : HasVal S w u cs) (hv : HasVal S' w v cs') (hT : U8T w) (hbu : bulkV u ≤ 1048576) (hbv : bulkV v ≤ 1048576) :
    Calls Tryd.prog 6 #[.agg cs.toArray, .agg cs'.toArray] w fun e' w' => e' = .returned (.bool true) ∧ Below w.heap.size w w' := by
  have HU := Lib.hid hu
  have HV := Lib.hid hv
  have HT := Lib.hid hT
  clear hT
  obtain ⟨U, hU⟩ : ∃ U, U = u := ⟨_, rfl⟩
  obtain ⟨V, hV⟩ : ∃ V, V = v := ⟨_, rfl⟩
  rw [← hU] at HU hbu
  rw [← hV] at HV hbv
  have hlaw := pair_law U V
  have htu := tlV U
  have htv := tlV V
  have htl : (textV (.mk 5 false 0 [] [U, V] [])).length ≤ 1099511627776 := by rw [text_pair]; simp only [List.length_cons, List.length_append]; omega
  obtain ⟨L, hL⟩ : ∃ L, L = DVal.mk 5 false 0 [] [U, V] [] := ⟨_, rfl⟩
  rw [← hL] at hlaw htl
  obtain ⟨su, yu, hwu⟩ : ∃ su yu, wrP U = (su, yu) := ⟨_, _, rfl⟩
  obtain ⟨sv, yv, hwv⟩ : ∃ sv yv, wrP V = (sv, yv) := ⟨_, _, rfl⟩
  obtain ⟨sl, yl, hwl⟩ : ∃ sl yl, wrP L = (sl, yl) := ⟨_, _, rfl⟩
  obtain ⟨CL, hCL⟩ : ∃ CL, CL = checkV 0 L := ⟨_, rfl⟩
  rw [hwu, hwv, hwl, ← hCL] at hlaw
  simp only [] at hlaw
  have hlu : su.length ≤ 16384 := by
    have : su = (wrP U).1 := by rw [hwu]
    rw [this, wrP]
    repeat' split
    all_goals (simp only [List.length_nil]; omega)
  have hlv : sv.length ≤ 16384 := by
    have : sv = (wrP V).1 := by rw [hwv]
    rw [this, wrP]
    repeat' split
    all_goals (simp only [List.length_nil]; omega)
  have HTU : Hid ((textV U).length ≤ 1099511627776) := Lib.hid (by omega)
  have HTV : Hid ((textV V).length ≤ 1099511627776) := Lib.hid (by omega)
  have HTL := Lib.hid htl
  have HWU := Lib.hid hwu
  have HWV := Lib.hid hwv
  have HWL := Lib.hid hwl
  have HCL := Lib.hid hCL
  have HL := Lib.hid hL
  have HLAW := Lib.hid hlaw
  clear htu htv htl hwu hwv hwl hCL hL hlaw
  obtain ⟨k1, b1, n1, s1, l1, f1⟩ := u
  obtain ⟨pl1, cl1, pf1, cf1, rfl, _, _, _⟩ := hasVal_mk.1 hu
  obtain ⟨k2, b2, n2, s2, l2, f2⟩ := v
  obtain ⟨pl2, cl2, pf2, cf2, rfl, _, _, _⟩ := hasVal_mk.1 hv
  clear hu hv hU hV
  obtain ⟨nl1, h1⟩ : ∃ nl, nl = l1.length := ⟨_, rfl⟩
  obtain ⟨nf1, h2⟩ : ∃ nf, nf = f1.length := ⟨_, rfl⟩
  obtain ⟨nl2, h3⟩ : ∃ nl, nl = l2.length := ⟨_, rfl⟩
  obtain ⟨nf2, h4⟩ : ∃ nf, nf = f2.length := ⟨_, rfl⟩
  show Calls Tryd.prog 6 #[.agg #[.int .u8 (k1 : Int), .bool b1, .int .i64 n1, .string (bs s1), .slice pl1 l1.length cl1, .slice pf1 f1.length cf1], .agg #[.int .u8 (k2 : Int), .bool b2, .int .i64 n2, .string (bs s2), .slice pl2 l2.length cl2, .slice pf2 f2.length cf2]] w _
  rw [← h1, ← h2] at HU ⊢
  rw [← h3, ← h4] at HV ⊢
  clear h1 h2 h3 h4
  go_enter Tryd.func6, Tryd.ntmps6
  go_upto_region 1 with (fail)
  generalize hW0 : World.alloc (World.alloc w _) _ = W0
  have hd1 : IsBlk W0 w.heap.size #[.int .u8 (k1 : Int), .bool b1, .int .i64 n1, .string (bs s1), .slice pl1 nl1 cl1, .slice pf1 nf1 cf1] 26 := by rw [← hW0]; exact (IsBlk.new _ _ _).alloc _
  have hd2 : IsBlk W0 (w.heap.size + 1) #[.int .u8 (k2 : Int), .bool b2, .int .i64 n2, .string (bs s2), .slice pl2 nl2 cl2, .slice pf2 nf2 cf2] 26 := by rw [← hW0]; exact IsBlk.new_at (by simp)
  have hb0 : Below w.heap.size w W0 := by rw [← hW0]; exact ((Below.refl _ _).alloc (Nat.le_refl _) _).alloc (by simp) _
  clear hW0
  have HD1 := Lib.hid hd1
  have HD2 := Lib.hid hd2
  have HB0 := Lib.hid hb0
  clear hd1 hd2 hb0
  go_wp2_with fail
  go_at_call 14
  refine (lives_any _ (U8T_ext HT.out HB0.out)).mono ?_
  rintro e' w1 ⟨rfl, hb⟩
  have hd1 := HD1.out.ext hb
  have hd2 := HD2.out.ext hb
  have HB1 := Lib.hid (below_ext HB0.out hb)
  clear hb HD1 HD2 HB0
  have HD1 := Lib.hid hd1
  have HD2 := Lib.hid hd2
  have c0 : w1.cell? ⟨w.heap.size, 0, none⟩ = some (.int .u8 (k1 : Int)) := hd1.cell rfl
  have c1 : w1.cell? ⟨w.heap.size, 1, none⟩ = some (.bool b1) := hd1.cell rfl
  have c2 : w1.cell? ⟨w.heap.size, 2, none⟩ = some (.int .i64 n1) := hd1.cell rfl
  have c3 : w1.cell? ⟨w.heap.size, 3, none⟩ = some (.string (bs s1)) := hd1.cell rfl
  have c4 : w1.cell? ⟨w.heap.size, 4, none⟩ = some (.slice pl1 nl1 cl1) := hd1.cell rfl
  have c5 : w1.cell? ⟨w.heap.size, 5, none⟩ = some (.slice pf1 nf1 cf1) := hd1.cell rfl
  have d0 : w1.cell? ⟨w.heap.size + 1, 0, none⟩ = some (.int .u8 (k2 : Int)) := hd2.cell rfl
  have d1 : w1.cell? ⟨w.heap.size + 1, 1, none⟩ = some (.bool b2) := hd2.cell rfl
  have d2 : w1.cell? ⟨w.heap.size + 1, 2, none⟩ = some (.int .i64 n2) := hd2.cell rfl
  have d3 : w1.cell? ⟨w.heap.size + 1, 3, none⟩ = some (.string (bs s2)) := hd2.cell rfl
  have d4 : w1.cell? ⟨w.heap.size + 1, 4, none⟩ = some (.slice pl2 nl2 cl2) := hd2.cell rfl
  have d5 : w1.cell? ⟨w.heap.size + 1, 5, none⟩ = some (.slice pf2 nf2 cf2) := hd2.cell rfl
  clear hd1 hd2
  go_wp2_with fail
  go_at_call 10
  refine (write_any U S _ _ (HU.out.ext HB1.out) (U8T_ext HT.out HB1.out) HTU.out).mono ?_
  rintro e' w2 ⟨he, hb⟩
  rw [HWU.out] at he
  subst he
  have hd1 := HD1.out.ext hb
  have hd2 := HD2.out.ext hb
  have HB2 := Lib.hid (below_ext HB1.out hb)
  clear hb HD1 HD2 HB1 c0 c1 c2 c3 c4 c5 d0 d1 d2 d3 d4 d5
  have HD1 := Lib.hid hd1
  have HD2 := Lib.hid hd2
  have c0 : w2.cell? ⟨w.heap.size, 0, none⟩ = some (.int .u8 (k1 : Int)) := hd1.cell rfl
  have c1 : w2.cell? ⟨w.heap.size, 1, none⟩ = some (.bool b1) := hd1.cell rfl
  have c2 : w2.cell? ⟨w.heap.size, 2, none⟩ = some (.int .i64 n1) := hd1.cell rfl
  have c3 : w2.cell? ⟨w.heap.size, 3, none⟩ = some (.string (bs s1)) := hd1.cell rfl
  have c4 : w2.cell? ⟨w.heap.size, 4, none⟩ = some (.slice pl1 nl1 cl1) := hd1.cell rfl
  have c5 : w2.cell? ⟨w.heap.size, 5, none⟩ = some (.slice pf1 nf1 cf1) := hd1.cell rfl
  have d0 : w2.cell? ⟨w.heap.size + 1, 0, none⟩ = some (.int .u8 (k2 : Int)) := hd2.cell rfl
  have d1 : w2.cell? ⟨w.heap.size + 1, 1, none⟩ = some (.bool b2) := hd2.cell rfl
  have d2 : w2.cell? ⟨w.heap.size + 1, 2, none⟩ = some (.int .i64 n2) := hd2.cell rfl
  have d3 : w2.cell? ⟨w.heap.size + 1, 3, none⟩ = some (.string (bs s2)) := hd2.cell rfl
  have d4 : w2.cell? ⟨w.heap.size + 1, 4, none⟩ = some (.slice pl2 nl2 cl2) := hd2.cell rfl
  have d5 : w2.cell? ⟨w.heap.size + 1, 5, none⟩ = some (.slice pf2 nf2 cf2) := hd2.cell rfl
  clear hd1 hd2
  go_wp2_with fail
  go_at_call 10
  refine (write_any V S' _ _ (HV.out.ext HB2.out) (U8T_ext HT.out HB2.out) HTV.out).mono ?_
  rintro e' w3 ⟨he, hb⟩
  rw [HWV.out] at he
  subst he
  have hd1 := HD1.out.ext hb
  have hd2 := HD2.out.ext hb
  have HB3 := Lib.hid (below_ext HB2.out hb)
  clear hb HD1 HD2 HB2 c0 c1 c2 c3 c4 c5 d0 d1 d2 d3 d4 d5
  have HD1 := Lib.hid hd1
  have HD2 := Lib.hid hd2
  have c0 : w3.cell? ⟨w.heap.size, 0, none⟩ = some (.int .u8 (k1 : Int)) := hd1.cell rfl
  have c1 : w3.cell? ⟨w.heap.size, 1, none⟩ = some (.bool b1) := hd1.cell rfl
  have c2 : w3.cell? ⟨w.heap.size, 2, none⟩ = some (.int .i64 n1) := hd1.cell rfl
  have c3 : w3.cell? ⟨w.heap.size, 3, none⟩ = some (.string (bs s1)) := hd1.cell rfl
  have c4 : w3.cell? ⟨w.heap.size, 4, none⟩ = some (.slice pl1 nl1 cl1) := hd1.cell rfl
  have c5 : w3.cell? ⟨w.heap.size, 5, none⟩ = some (.slice pf1 nf1 cf1) := hd1.cell rfl
  have d0 : w3.cell? ⟨w.heap.size + 1, 0, none⟩ = some (.int .u8 (k2 : Int)) := hd2.cell rfl
  have d1 : w3.cell? ⟨w.heap.size + 1, 1, none⟩ = some (.bool b2) := hd2.cell rfl
  have d2 : w3.cell? ⟨w.heap.size + 1, 2, none⟩ = some (.int .i64 n2) := hd2.cell rfl
  have d3 : w3.cell? ⟨w.heap.size + 1, 3, none⟩ = some (.string (bs s2)) := hd2.cell rfl
  have d4 : w3.cell? ⟨w.heap.size + 1, 4, none⟩ = some (.slice pl2 nl2 cl2) := hd2.cell rfl
  have d5 : w3.cell? ⟨w.heap.size + 1, 5, none⟩ = some (.slice pf2 nf2 cf2) := hd2.cell rfl
  clear hd1 hd2
  go_upto_region 6 with (fail)
  generalize hW4 : World.alloc (World.alloc w3 _) _ = W4
  have hr4 : IsBlk W4 w3.heap.size #[.int .u8 (k1 : Int), .bool b1, .int .i64 n1, .string (bs s1), .slice pl1 nl1 cl1, .slice pf1 nf1 cf1, .int .u8 (k2 : Int), .bool b2, .int .i64 n2, .string (bs s2), .slice pl2 nl2 cl2, .slice pf2 nf2 cf2] 26 := by rw [← hW4]; exact (IsBlk.new _ _ _).alloc _
  have hl4 : IsBlk W4 (w3.heap.size + 1) #[.int .u8 5, .bool false, .int .i64 0, .string (bs []), .slice (some ⟨w3.heap.size, 0, none⟩) 2 2, .slice none 0 0] 26 := by rw [← hW4]; exact IsBlk.new_at (by simp)
  have hb4 : Below w3.heap.size w3 W4 := by rw [← hW4]; exact ((Below.refl _ _).alloc (Nat.le_refl _) _).alloc (by simp) _
  clear hW4 c0 c1 c2 c3 c4 c5 d0 d1 d2 d3 d4 d5
  have hlt4 := hr4.lt
  have hbw4 := below_ext HB3.out hb4
  have hval : HasVal (fun _ => True) W4 (.mk 5 false 0 [] [U, V] []) [.int .u8 5, .bool false, .int .i64 0, .string (bs []), .slice (some ⟨w3.heap.size, 0, none⟩) 2 2, .slice none 0 0] := by
    refine hasVal_mk.2 ⟨some ⟨w3.heap.size, 0, none⟩, 2, none, 0, rfl, ⟨by decide, by decide, by decide, by simp, by simp, by simp, by simp, by unfold maxLen; omega, by simp, by unfold maxLen; omega⟩, fun i hi => ?_, fun i hi => by simp at hi⟩
    have hi2 : i = 0 ∨ i = 1 := by simp at hi; omega
    rcases hi2 with rfl | rfl
    · refine ⟨w3.heap.size, 0, [.int .u8 (k1 : Int), .bool b1, .int .i64 n1, .string (bs s1), .slice pl1 nl1 cl1, .slice pf1 nf1 cf1], rfl, ⟨trivial, by omega, fun j hj => ?_⟩, (HU.out.ext hbw4).ext_to (fun _ _ => trivial) (fun _ _ _ => rfl)⟩
      match j, hj with
      | 0, _ | 1, _ | 2, _ | 3, _ | 4, _ | 5, _ => exact hr4.cell rfl
      | j + 6, hj => exact absurd hj (by simp only [List.length_cons, List.length_nil]; omega)
    · refine ⟨w3.heap.size, 0, [.int .u8 (k2 : Int), .bool b2, .int .i64 n2, .string (bs s2), .slice pl2 nl2 cl2, .slice pf2 nf2 cf2], rfl, ⟨trivial, by omega, fun j hj => ?_⟩, (HV.out.ext hbw4).ext_to (fun _ _ => trivial) (fun _ _ _ => rfl)⟩
      match j, hj with
      | 0, _ | 1, _ | 2, _ | 3, _ | 4, _ | 5, _ => exact hr4.cell rfl
      | j + 6, hj => exact absurd hj (by simp only [List.length_cons, List.length_nil]; omega)
  rw [← HL.out] at hval
  have c0 : W4.cell? ⟨w3.heap.size + 1, 0, none⟩ = some (.int .u8 5) := hl4.cell rfl
  have c1 : W4.cell? ⟨w3.heap.size + 1, 1, none⟩ = some (.bool false) := hl4.cell rfl
  have c2 : W4.cell? ⟨w3.heap.size + 1, 2, none⟩ = some (.int .i64 0) := hl4.cell rfl
  have c3 : W4.cell? ⟨w3.heap.size + 1, 3, none⟩ = some (.string (bs [])) := hl4.cell rfl
  have c4 : W4.cell? ⟨w3.heap.size + 1, 4, none⟩ = some (.slice (some ⟨w3.heap.size, 0, none⟩) 2 2) := hl4.cell rfl
  have c5 : W4.cell? ⟨w3.heap.size + 1, 5, none⟩ = some (.slice none 0 0) := hl4.cell rfl
  have HL4 := Lib.hid hl4
  have HVL := Lib.hid hval
  have HB4 := Lib.hid hbw4
  clear hr4 hl4 hb4 hval hbw4 HB3 HD1 HD2
  go_wp2_with fail
  go_at_call 10
  refine (write_any L _ _ _ HVL.out (U8T_ext HT.out HB4.out) HTL.out).mono ?_
  rintro e' w5 ⟨he, hb⟩
  rw [HWL.out] at he
  subst he
  have hl5 := HL4.out.ext hb
  have HVL5 := Lib.hid (HVL.out.ext hb)
  have HB5 := Lib.hid (below_ext HB4.out hb)
  clear hb c0 c1 c2 c3 c4 c5 HL4 HVL HB4
  have c0 : w5.cell? ⟨w3.heap.size + 1, 0, none⟩ = some (.int .u8 5) := hl5.cell rfl
  have c1 : w5.cell? ⟨w3.heap.size + 1, 1, none⟩ = some (.bool false) := hl5.cell rfl
  have c2 : w5.cell? ⟨w3.heap.size + 1, 2, none⟩ = some (.int .i64 0) := hl5.cell rfl
  have c3 : w5.cell? ⟨w3.heap.size + 1, 3, none⟩ = some (.string (bs [])) := hl5.cell rfl
  have c4 : w5.cell? ⟨w3.heap.size + 1, 4, none⟩ = some (.slice (some ⟨w3.heap.size, 0, none⟩) 2 2) := hl5.cell rfl
  have c5 : w5.cell? ⟨w3.heap.size + 1, 5, none⟩ = some (.slice none 0 0) := hl5.cell rfl
  clear hl5
  have hsu := bs_size su
  have hsv := bs_size sv
  rcases HLAW.out with ⟨ha, hl⟩ | ⟨ha, hb, hl, hc⟩ | ⟨ha, hb, hl, ht⟩
  · have hlb : (yl != 0) = true := by simpa using hl
    have hab : (yu != 0) = true ∨ ((yu != 0) = false ∧ (yv != 0) = true) := by
      by_cases h : yu = 0
      · exact Or.inr ⟨by simpa using h, by simpa using ha.resolve_left (fun h2 => h2 h)⟩
      · exact Or.inl (by simpa using h)
    clear ha hl
    rcases hab with h1 | ⟨h1, h2⟩
    all_goals
      go_wp2
      go_ret
      exact ⟨rfl, HB5.out⟩
  · subst ha
    subst hb
    have hlb : (yl != 0) = true := by simpa using hl
    clear hl
    go_wp2_with fail
    go_at_call 20
    refine (check_any L _ _ _ HVL5.out (U8T_ext HT.out HB5.out)).mono ?_
    rintro e' w6 ⟨he, hb⟩
    rw [← HCL.out] at he
    subst he
    have HB6 := Lib.hid (below_ext HB5.out hb)
    clear hb c0 c1 c2 c3 c4 c5
    rcases hc with hc | ⟨hc, hc2⟩
    · have hcb : (CL != 0) = true := by simpa using hc
      clear hc
      go_wp2
      go_ret
      exact ⟨rfl, HB6.out⟩
    · subst hc
      have hcI : (16384 : Int) < (su.length : Int) + (sv.length : Int) + 2 := by omega
      clear hc2
      go_wp2
      go_ret
      exact ⟨rfl, HB6.out⟩
  · subst ha
    subst hb
    subst hl
    have HTT := Lib.hid ht
    clear ht
    have heq : ((bs sl).toList == ((⟨#[6, 2]⟩ : ByteArray) ++ bs su ++ bs sv).toList) = true := by
      have e : ((⟨#[6, 2]⟩ : ByteArray) ++ bs su ++ bs sv) = bs sl := by
        show bs [6, 2] ++ bs su ++ bs sv = bs sl
        rw [bs_app, bs_app, HTT.out]
      rw [e]
      exact beq_self_eq_true _
    have HE := Lib.hid heq
    clear heq
    go_wp2
    go_ret
    exact ⟨congrArg (fun b => Ending.returned (.bool b)) HE.out, HB5.out⟩
end Go.Proofs.YtghkeilgdmnnlaaDoor
