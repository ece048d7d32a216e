/- codicillaw01.ShaGrows: walk and law. Condition: the table of constants reads as the text lays it. -/
import Derived.Test.YtpnahmbhpbdpiaaDoorShaTop
import Derived.Deep.Cut
set_option linter.unusedVariables false
set_option linter.unusedSimpArgs false
namespace Go.Proofs.YtpnahmbhpbdpiaaDoor
open Go Go.RowKit Go.BigFrame
set_option maxRecDepth 100000

set_option maxHeartbeats 4000000 in
theorem grows_walk (a b c d e f g h' n : Int) (r x y : ByteArray) (w : World) (hK : Ks w) (hr : r.size + x.size + y.size ≤ 1048576) (hn0 : 0 ≤ n) (hn : n < 18446744073709551616)
    (a1 b1 c1 d1 e1 f1 g1 h1 n1 : Int) (r1 : ByteArray) (z1 : Int) (hz1 : addT [a, b, c, d, e, f, g, h'] n r x = (([a1, b1, c1, d1, e1, f1, g1, h1], n1, r1), z1)) (hr1 : r1.size ≤ 1048576) (hn1 : 0 ≤ n1 ∧ n1 < 18446744073709551616)
    (a2 b2 c2 d2 e2 f2 g2 h2 n2 : Int) (r2 : ByteArray) (z2 : Int) (hz2 : addT [a1, b1, c1, d1, e1, f1, g1, h1] n1 r1 y = (([a2, b2, c2, d2, e2, f2, g2, h2], n2, r2), z2))
    (a3 b3 c3 d3 e3 f3 g3 h3 n3 : Int) (r3 : ByteArray) (z3 : Int) (hz3 : addT [a, b, c, d, e, f, g, h'] n r (x ++ y) = (([a3, b3, c3, d3, e3, f3, g3, h3], n3, r3), z3))
    (hlaw : (z1 = 0 ∧ z2 = 0 ∧ z3 = 0 ∧ ([a3, b3, c3, d3, e3, f3, g3, h3], n3, r3) = ([a2, b2, c2, d2, e2, f2, g2, h2], n2, r2) ∧ r2.size ≤ (r ++ x ++ y).size ∧ (r ++ x ++ y).extract ((r ++ x ++ y).size - r2.size) (r ++ x ++ y).size = r2) ∨ ((z1 ≠ 0 ∨ z2 ≠ 0) ∧ z3 ≠ 0)) :
    Calls Tryd.prog 7 #[shaV [a, b, c, d, e, f, g, h'] n r, .string x, .string y] w fun e' w' => e' = .returned (.bool true) ∧ Below w.heap.size w w' := by
  show Calls Tryd.prog 7 #[.agg #[.int .u32 a, .int .u32 b, .int .u32 c, .int .u32 d, .int .u32 e, .int .u32 f, .int .u32 g, .int .u32 h', .int .u64 n, .string r], .string x, .string y] w _
  have HK := Lib.hid hK; clear hK
  have HZ1 := Lib.hid hz1; clear hz1
  have HZ2 := Lib.hid hz2; clear hz2
  have HZ3 := Lib.hid hz3; clear hz3
  have HL := Lib.hid hlaw; clear hlaw
  go_enter Tryd.func7, Tryd.ntmps7
  go_wp2_with fail
  go_at_call 8
  refine (lives_any _ (HK.out.ext ((Below.refl _ _).alloc (Nat.le_refl _) _))).mono ?_
  rintro e' w1 ⟨rfl, hb⟩
  have hb3 : IsBlk w1 w.heap.size #[.int .u32 a, .int .u32 b, .int .u32 c, .int .u32 d, .int .u32 e, .int .u32 f, .int .u32 g, .int .u32 h', .int .u64 n, .string r] 29 := (IsBlk.new w _ _).ext hb
  have hw1 : Below w.heap.size w w1 := below_at hb
  have hs1 : w.heap.size < w1.heap.size := hb3.lt
  obtain ⟨p0, p1, p2, p3, p4, p5, p6, p7, p8, p9⟩ := ten_cells hb3
  have H3 := Lib.hid hb3; clear hb3
  have HW1 := Lib.hid hw1; clear hw1 hb
  go_wp2_with fail
  go_at_call 13
  refine (add_T [a, b, c, d, e, f, g, h'] rfl n r x _ (HK.out.ext HW1.out) (by omega) hn0 hn HZ1.out).mono ?_
  rintro e' w2 ⟨rfl, hb⟩
  have hb3 := H3.out.ext hb
  have hw2 := below_ext HW1.out hb
  have hs2 : w1.heap.size ≤ w2.heap.size := hb.size
  clear hb H3 p0 p1 p2 p3 p4 p5 p6 p7 p8 p9
  have H3 := Lib.hid hb3; clear hb3
  have HW2 := Lib.hid hw2; clear hw2
  go_upto_region 4 with (fail)
  generalize hW2 : World.alloc _ _ = W2
  have hI : IsBlk W2 w2.heap.size #[.int .u32 a1, .int .u32 b1, .int .u32 c1, .int .u32 d1, .int .u32 e1, .int .u32 f1, .int .u32 g1, .int .u32 h1, .int .u64 n1, .string r1] 29 := by rw [← hW2]; exact IsBlk.new _ _ _
  have hX : IsBlk W2 w.heap.size #[.int .u32 a, .int .u32 b, .int .u32 c, .int .u32 d, .int .u32 e, .int .u32 f, .int .u32 g, .int .u32 h', .int .u64 n, .string r] 29 := by rw [← hW2]; exact H3.out.alloc _
  have hB : Below w.heap.size w W2 := by rw [← hW2]; exact HW2.out.alloc (by omega) _
  have hS2 : W2.heap.size = w2.heap.size + 1 := by rw [← hW2]; simp
  clear hW2 H3
  obtain ⟨p0, p1, p2, p3, p4, p5, p6, p7, p8, p9⟩ := ten_cells hI
  have H3 := Lib.hid hX; clear hX
  have I1 := Lib.hid hI; clear hI
  have HB2 := Lib.hid hB; clear hB HW2
  go_wp2_with fail
  go_at_call 13
  refine (add_T [a1, b1, c1, d1, e1, f1, g1, h1] rfl n1 r1 y _ (HK.out.ext HB2.out) (by omega) hn1.1 hn1.2 HZ2.out).mono ?_
  rintro e' w3 ⟨rfl, hb⟩
  have hb3 := H3.out.ext hb
  have hb4 := I1.out.ext hb
  have hw3 := below_ext HB2.out hb
  have hs3 : W2.heap.size ≤ w3.heap.size := hb.size
  clear hb H3 I1 p0 p1 p2 p3 p4 p5 p6 p7 p8 p9
  have H3 := Lib.hid hb3; clear hb3
  have I1 := Lib.hid hb4; clear hb4
  have HW3 := Lib.hid hw3; clear hw3
  go_upto_region 5 with (fail)
  generalize hW3 : World.alloc _ _ = W3
  have hI : IsBlk W3 w3.heap.size #[.int .u32 a2, .int .u32 b2, .int .u32 c2, .int .u32 d2, .int .u32 e2, .int .u32 f2, .int .u32 g2, .int .u32 h2, .int .u64 n2, .string r2] 29 := by rw [← hW3]; exact IsBlk.new _ _ _
  have hX : IsBlk W3 w.heap.size #[.int .u32 a, .int .u32 b, .int .u32 c, .int .u32 d, .int .u32 e, .int .u32 f, .int .u32 g, .int .u32 h', .int .u64 n, .string r] 29 := by rw [← hW3]; exact H3.out.alloc _
  have hB : Below w.heap.size w W3 := by rw [← hW3]; exact HW3.out.alloc (by omega) _
  have hS3 : W3.heap.size = w3.heap.size + 1 := by rw [← hW3]; simp
  have hI1 : IsBlk W3 w2.heap.size #[.int .u32 a1, .int .u32 b1, .int .u32 c1, .int .u32 d1, .int .u32 e1, .int .u32 f1, .int .u32 g1, .int .u32 h1, .int .u64 n1, .string r1] 29 := by rw [← hW3]; exact I1.out.alloc _
  clear hW3 H3 I1
  obtain ⟨p0, p1, p2, p3, p4, p5, p6, p7, p8, p9⟩ := ten_cells hX
  have H3 := Lib.hid hX; clear hX
  have I1 := Lib.hid hI1; clear hI1
  have I2 := Lib.hid hI; clear hI
  have HB3 := Lib.hid hB; clear hB HW3
  go_wp2_with fail
  go_at_call 13
  refine (add_T [a, b, c, d, e, f, g, h'] rfl n r (x ++ y) _ (HK.out.ext HB3.out) (by rw [ByteArray.size_append]; omega) hn0 hn HZ3.out).mono ?_
  rintro e' w4 ⟨rfl, hb⟩
  have hb3 := H3.out.ext hb
  have hb4 := I1.out.ext hb
  have hb5 := I2.out.ext hb
  have hw4 := below_ext HB3.out hb
  have hs4 : W3.heap.size ≤ w4.heap.size := hb.size
  clear hb H3 I1 I2 p0 p1 p2 p3 p4 p5 p6 p7 p8 p9
  have H3 := Lib.hid hb3; clear hb3
  have I1 := Lib.hid hb4; clear hb4
  have I2 := Lib.hid hb5; clear hb5
  have HW4 := Lib.hid hw4; clear hw4
  go_upto_region 6 with (fail)
  generalize hW4 : World.alloc _ _ = W4
  have hI : IsBlk W4 w4.heap.size #[.int .u32 a3, .int .u32 b3, .int .u32 c3, .int .u32 d3, .int .u32 e3, .int .u32 f3, .int .u32 g3, .int .u32 h3, .int .u64 n3, .string r3] 29 := by rw [← hW4]; exact IsBlk.new _ _ _
  have hX : IsBlk W4 w.heap.size #[.int .u32 a, .int .u32 b, .int .u32 c, .int .u32 d, .int .u32 e, .int .u32 f, .int .u32 g, .int .u32 h', .int .u64 n, .string r] 29 := by rw [← hW4]; exact H3.out.alloc _
  have hB : Below w.heap.size w W4 := by rw [← hW4]; exact HW4.out.alloc (by omega) _
  have hS4 : W4.heap.size = w4.heap.size + 1 := by rw [← hW4]; simp
  have hI1 : IsBlk W4 w2.heap.size #[.int .u32 a1, .int .u32 b1, .int .u32 c1, .int .u32 d1, .int .u32 e1, .int .u32 f1, .int .u32 g1, .int .u32 h1, .int .u64 n1, .string r1] 29 := by rw [← hW4]; exact I1.out.alloc _
  have hI2 : IsBlk W4 w3.heap.size #[.int .u32 a2, .int .u32 b2, .int .u32 c2, .int .u32 d2, .int .u32 e2, .int .u32 f2, .int .u32 g2, .int .u32 h2, .int .u64 n2, .string r2] 29 := by rw [← hW4]; exact I2.out.alloc _
  clear hW4 H3 I1 I2
  have HX := Lib.hid hX; clear hX
  have I1 := Lib.hid hI1; clear hI1
  have I2 := Lib.hid hI2; clear hI2
  have I3 := Lib.hid hI; clear hI
  have HB4 := Lib.hid hB; clear hB HW4
  rcases HL.out with ⟨rfl, rfl, rfl, heq, hle, hext⟩ | ⟨hne, hz⟩
  · simp only [Prod.mk.injEq, List.cons.injEq, and_true] at heq
    obtain ⟨⟨rfl, rfl, rfl, rfl, rfl, rfl, rfl, rfl⟩, rfl, rfl⟩ := heq
    obtain ⟨p0, p1, p2, p3, p4, p5, p6, p7, p8, p9⟩ := ten_cells HX.out
    obtain ⟨u0, u1, u2, u3, u4, u5, u6, u7, u8, u9⟩ := ten_cells I2.out
    obtain ⟨v0, v1, v2, v3, v4, v5, v6, v7, v8, v9⟩ := ten_cells I3.out
    have hqs : (r ++ x ++ y).size ≤ 1048576 := by rw [ByteArray.size_append, ByteArray.size_append]; omega
    clear HL
    go_wp2_with fail
    obtain ⟨q, hq⟩ : ∃ q, q = r ++ x ++ y := ⟨_, rfl⟩
    rw [← hq] at hle hext hqs ⊢
    have HQ := Lib.hid hq; clear hq
    have hleI : (r3.size : Int) ≤ (q.size : Int) := by omega
    have hsubI : ((q.size : Int) - (r3.size : Int)).toNat = q.size - r3.size := by omega
    have hX9 := Lib.hid hext; clear hext
    have hl3 : w3.heap.size < W4.heap.size := by omega
    have hl4 : w4.heap.size < W4.heap.size := by omega
    clear hS2 hS3 hS4
    refine mix_start [] (Cls W4) (by kernel_rfl) (Cls.of ((Below.refl _ _).drew)) ?_
    refine mix_flt (by kernel_rfl) [0, 1, 2, 3, 4, 5, 6, 7, 8, 9, 10, 11, 12, 13, 14, 15, 16, 17, 18, 19, 20, 21, 22, 23, 24, 25, 26, 27, 28] 0 _ _ (by kernel_rfl) ?_
    simp only [opsAt, List.map_cons, List.map_nil, List.toList_toArray, List.getD_cons_succ, List.getD_cons_zero]
    unfold Cls
    repeat (go_big_quiet_step (fail))
    refine wpQuiet_nil ?_
    (try rw [← Cls_def])
    refine mix_end [] (by kernel_rfl) (fun w1 hw1 => ?_)
    refine wpList_nil ?_
    obtain ⟨z, rfl⟩ := hw1
    refine Calm.normal ?_
    go_wp2
    go_ret
    refine ⟨?_, below_ext HB4.out (ext_below W4 z)⟩
    have h9 := hX9.out
    refine ret_bool ?_
    simp [bs_beq, hsubI, h9]
  · go_wp2_with fail
    all_goals go_ret
    all_goals exact ⟨by simp [hz], HB4.out⟩

theorem addT_parts (hs : List Int) (hl : hs.length = 8) (n : Int) (r s : ByteArray) : ∃ (a1 b1 c1 d1 e1 f1 g1 h1 n1 : Int) (r1 : ByteArray) (z1 : Int), addT hs n r s = (([a1, b1, c1, d1, e1, f1, g1, h1], n1, r1), z1) := by
  obtain ⟨a1, b1, c1, d1, e1, f1, g1, h1, h⟩ := of_eight (addT_length hs hl n r s)
  exact ⟨a1, b1, c1, d1, e1, f1, g1, h1, (addT hs n r s).1.2.1, (addT hs n r s).1.2.2, (addT hs n r s).2, by rw [← h]⟩
theorem addT_ok {hs : List Int} {n : Int} {r s : ByteArray} (h1 : rightB n r.size = true) (h2 : (s.size : Int) < 1152921504606846976 - n) : addT hs n r s = (((more hs (r.data.toList ++ s.data.toList)).1, n + s.size, bs (more hs (r.data.toList ++ s.data.toList)).2), 0) := by
  rw [addT, if_pos h1, if_pos h2]
theorem addT_long {hs : List Int} {n : Int} {r s : ByteArray} (h1 : rightB n r.size = true) (h2 : ¬ (s.size : Int) < 1152921504606846976 - n) : addT hs n r s = (([0, 0, 0, 0, 0, 0, 0, 0], 0, bs []), 2) := by
  rw [addT, if_pos h1, if_neg h2]
theorem addT_not {hs : List Int} {n : Int} {r s : ByteArray} (h1 : ¬ rightB n r.size = true) : addT hs n r s = (([0, 0, 0, 0, 0, 0, 0, 0], 0, bs []), 6) := by
  rw [addT, if_neg h1]
theorem rightB_iff {n : Int} {k : Nat} : rightB n k = true ↔ n < 1152921504606846976 ∧ k < 64 ∧ (k : Int) = n % 64 := by
  simp [rightB]
theorem rightB_add (hs : List Int) {n : Int} {r s : ByteArray} (h0 : 0 ≤ n) (h1 : rightB n r.size = true) (h2 : (s.size : Int) < 1152921504606846976 - n) : rightB (n + s.size) (bs (more hs (r.data.toList ++ s.data.toList)).2).size = true := by
  rw [rightB_iff] at h1 ⊢
  rw [bs_size, more_rest _ _ _ (Nat.le_refl _), List.length_append, ← ba_size, ← ba_size]
  omega
theorem ba_app_list (r s : ByteArray) : (r ++ s).data.toList = r.data.toList ++ s.data.toList := by
  rw [ByteArray.data_append, Array.toList_append]
theorem bs_self (s : ByteArray) : bs s.data.toList = s := (bs_of rfl).symm
theorem bs_drop (q : ByteArray) (k : Nat) : q.extract k q.size = bs (q.data.toList.drop k) := by
  apply bs_of
  rw [ByteArray.data_extract, Array.toList_extract, List.extract, ba_size]
  rw [List.take_of_length_le (by rw [List.length_drop]; omega)]
theorem more_tail_ba (hs : List Int) (q : ByteArray) : q.extract (q.size - (bs (more hs q.data.toList).2).size) q.size = bs (more hs q.data.toList).2 := by
  rw [bs_drop, bs_size]
  conv => rhs; rw [more_tail]
  rw [ba_size]
theorem grows_law (hs : List Int) (n : Int) (r x y : ByteArray) (h0 : 0 ≤ n) :
    ((addT hs n r x).2 = 0 ∧ (addT (addT hs n r x).1.1 (addT hs n r x).1.2.1 (addT hs n r x).1.2.2 y).2 = 0 ∧ (addT hs n r (x ++ y)).2 = 0 ∧ (addT hs n r (x ++ y)).1 = (addT (addT hs n r x).1.1 (addT hs n r x).1.2.1 (addT hs n r x).1.2.2 y).1 ∧ (addT (addT hs n r x).1.1 (addT hs n r x).1.2.1 (addT hs n r x).1.2.2 y).1.2.2.size ≤ (r ++ x ++ y).size ∧ (r ++ x ++ y).extract ((r ++ x ++ y).size - (addT (addT hs n r x).1.1 (addT hs n r x).1.2.1 (addT hs n r x).1.2.2 y).1.2.2.size) (r ++ x ++ y).size = (addT (addT hs n r x).1.1 (addT hs n r x).1.2.1 (addT hs n r x).1.2.2 y).1.2.2)
      ∨ (((addT hs n r x).2 ≠ 0 ∨ (addT (addT hs n r x).1.1 (addT hs n r x).1.2.1 (addT hs n r x).1.2.2 y).2 ≠ 0) ∧ (addT hs n r (x ++ y)).2 ≠ 0) := by
  have hsz : (x ++ y).size = x.size + y.size := ByteArray.size_append
  by_cases hr : rightB n r.size = true
  · by_cases hx : (x.size : Int) < 1152921504606846976 - n
    · have hr2 := rightB_add hs h0 hr hx
      rw [addT_ok hr hx]
      by_cases hy : (y.size : Int) < 1152921504606846976 - (n + x.size)
      · left
        simp only []
        rw [addT_ok hr2 hy, addT_ok (s := x ++ y) hr (by omega), bs_toList, ← more_app, List.append_assoc, ← ba_app_list, ← ba_app_list r (x ++ y)]
        refine ⟨trivial, rfl, rfl, ?_, ?_, ?_⟩
        · simp only [Prod.mk.injEq, true_and, and_true]
          omega
        · simp only []
          rw [bs_size, more_tail, List.length_drop, ByteArray.append_assoc, ba_size]
          omega
        · simp only []
          rw [ByteArray.append_assoc]
          exact more_tail_ba _ _
      · right
        simp only []
        rw [addT_long hr2 hy, addT_long (s := x ++ y) hr (by omega)]
        exact ⟨Or.inr (by decide), by decide⟩
    · right
      rw [addT_long hr hx, addT_long (s := x ++ y) hr (by omega)]
      exact ⟨Or.inl (by decide), by decide⟩
  · right
    rw [addT_not hr, addT_not (s := x ++ y) hr]
    exact ⟨Or.inl (by decide), by decide⟩
theorem grows_any (hs : List Int) (hl : hs.length = 8) (n : Int) (r x y : ByteArray) (w : World) (hK : Ks w) (hr : r.size + x.size + y.size ≤ 1048576) (hn0 : 0 ≤ n) (hn : n < 18446744073709551616) :
    Calls Tryd.prog 7 #[shaV hs n r, .string x, .string y] w fun e' w' => e' = .returned (.bool true) ∧ Below w.heap.size w w' := by
  obtain ⟨a, b, c, d, e, f, g, h', rfl⟩ := of_eight hl
  obtain ⟨a1, b1, c1, d1, e1, f1, g1, h1, n1, r1, z1, hz1⟩ := addT_parts [a, b, c, d, e, f, g, h'] hl n r x
  obtain ⟨a2, b2, c2, d2, e2, f2, g2, h2, n2, r2, z2, hz2⟩ := addT_parts [a1, b1, c1, d1, e1, f1, g1, h1] rfl n1 r1 y
  obtain ⟨a3, b3, c3, d3, e3, f3, g3, h3, n3, r3, z3, hz3⟩ := addT_parts [a, b, c, d, e, f, g, h'] hl n r (x ++ y)
  have hlaw := grows_law [a, b, c, d, e, f, g, h'] n r x y hn0
  have hc := addT_count [a, b, c, d, e, f, g, h'] n r x hn0
  have hrs := addT_rest [a, b, c, d, e, f, g, h'] n r x
  simp only [hz1, hz2, hz3] at hlaw hc hrs
  exact grows_walk a b c d e f g h' n r x y w hK hr hn0 hn _ _ _ _ _ _ _ _ _ _ _ hz1 (by omega) hc _ _ _ _ _ _ _ _ _ _ _ hz2 _ _ _ _ _ _ _ _ _ _ _ hz3 hlaw
end Go.Proofs.YtpnahmbhpbdpiaaDoor
