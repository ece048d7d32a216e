/- codicillaw01.ShaTurns: walk and law. Condition: the table of constants reads as the text lays it. -/
import Derived.Test.YtpnahmbhpbdpiaaDoorShaTop
import Derived.Test.YtpnahmbhpbdpiaaDoorShaGrows
import Derived.Deep.Cut
set_option linter.unusedVariables false
set_option linter.unusedSimpArgs false
namespace Go.Proofs.YtpnahmbhpbdpiaaDoor
open Go Go.RowKit Go.BigFrame
set_option maxRecDepth 100000

theorem hexL_app (l m : List UInt8) : hexL (l ++ m) = hexL l ++ hexL m := by rw [hexL_eq, hexL_eq, hexL_eq, List.flatMap_append]
theorem hex_app (x y : ByteArray) : bs (hexL (x ++ y).data.toList) = bs (hexL x.data.toList) ++ bs (hexL y.data.toList) := by rw [ba_app_list, hexL_app, bs_app]
theorem hex_len (x : ByteArray) : ((bs (hexL x.data.toList)).size : Int) = 2 * (x.size : Int) := by
  rw [bs_size, hexL_length, ba_size]
  omega
set_option maxHeartbeats 4000000 in
theorem turns_walk (x y : ByteArray) (a b c d e f g h' n : Int) (r : ByteArray) (w : World) (hK : Ks w) (hr : r.size + x.size + y.size ≤ 1048576) (hn0 : 0 ≤ n) (hn : n < 18446744073709551616)
    (q : ByteArray) (z : Int) (hz : (bs (endP [a, b, c, d, e, f, g, h'] n r).1, (endP [a, b, c, d, e, f, g, h'] n r).2) = (q, z))
    (a1 b1 c1 d1 e1 f1 g1 h1 n1 : Int) (r1 : ByteArray) (z1 : Int) (hz1 : addT [a, b, c, d, e, f, g, h'] n r (bs []) = (([a1, b1, c1, d1, e1, f1, g1, h1], n1, r1), z1))
    (hlaw : (z = 0 ∧ z1 = 0 ∧ ([a1, b1, c1, d1, e1, f1, g1, h1], n1, r1) = ([a, b, c, d, e, f, g, h'], n, r) ∧ q.size = 32) ∨ (z = 6 ∧ z1 = 6 ∧ q = bs [] ∧ ([a1, b1, c1, d1, e1, f1, g1, h1], n1, r1) = ([0, 0, 0, 0, 0, 0, 0, 0], 0, bs []))) :
    Calls Tryd.prog 6 #[.string x, .string y, shaV [a, b, c, d, e, f, g, h'] n r] w fun e' w' => e' = .returned (.bool true) ∧ Below w.heap.size w w' := by
  show Calls Tryd.prog 6 #[.string x, .string y, .agg #[.int .u32 a, .int .u32 b, .int .u32 c, .int .u32 d, .int .u32 e, .int .u32 f, .int .u32 g, .int .u32 h', .int .u64 n, .string r]] w _
  have HK := Lib.hid hK; clear hK
  have HZ := Lib.hid hz; clear hz
  have HZ1 := Lib.hid hz1; clear hz1
  have HL := Lib.hid hlaw; clear hlaw
  obtain ⟨p, hp⟩ : ∃ p, p = bs (hexL x.data.toList) := ⟨_, rfl⟩
  obtain ⟨p', hp'⟩ : ∃ p', p' = bs (hexL y.data.toList) := ⟨_, rfl⟩
  have hps : (p.size : Int) = 2 * (x.size : Int) := by rw [hp]; exact hex_len x
  have hpp : p.size + p'.size ≤ 4194304 := by
    rw [hp, hp', bs_size, bs_size, hexL_length, hexL_length, ← ba_size, ← ba_size]
    omega
  have HP := Lib.hid hp; clear hp
  have HP' := Lib.hid hp'; clear hp'
  go_enter Tryd.func6, Tryd.ntmps6
  go_wp2_with fail
  go_at_call 8
  refine (lives_any _ (HK.out.ext ((Below.refl _ _).alloc (Nat.le_refl _) _))).mono ?_
  rintro e' w1 ⟨rfl, hb⟩
  have hb3 : IsBlk w1 w.heap.size #[.int .u32 a, .int .u32 b, .int .u32 c, .int .u32 d, .int .u32 e, .int .u32 f, .int .u32 g, .int .u32 h', .int .u64 n, .string r] 29 := (IsBlk.new w _ _).ext hb
  have hw1 : Below w.heap.size w w1 := below_at hb
  have H3 := Lib.hid hb3; clear hb3
  have HW1 := Lib.hid hw1; clear hw1 hb
  go_wp2_with fail
  go_at_call 11
  refine (hex_any (x ++ y) _ (by rw [ByteArray.size_append]; omega)).mono ?_
  rintro e' w2 ⟨he, hb⟩
  rw [hex_app, ← HP.out, ← HP'.out] at he
  subst he
  have hb3 := H3.out.ext hb
  have hw2 := below_ext HW1.out hb
  clear hb H3
  have H3 := Lib.hid hb3; clear hb3
  have HW2 := Lib.hid hw2; clear hw2
  go_wp2_with fail
  go_at_call 11
  refine (hex_any x _ (by omega)).mono ?_
  rintro e' w3 ⟨he, hb⟩
  rw [← HP.out] at he
  subst he
  have hb3 := H3.out.ext hb
  have hw3 := below_ext HW2.out hb
  clear hb H3
  have H3 := Lib.hid hb3; clear hb3
  have HW3 := Lib.hid hw3; clear hw3
  go_wp2_with fail
  go_at_call 11
  refine (hex_any y _ (by omega)).mono ?_
  rintro e' w4 ⟨he, hb⟩
  rw [← HP'.out] at he
  subst he
  have hb3 := H3.out.ext hb
  have hw4 := below_ext HW3.out hb
  clear hb H3
  have H3 := Lib.hid hb3; clear hb3
  have HW4 := Lib.hid hw4; clear hw4
  go_wp2_with fail
  go_at_call 11
  refine (hex_any x _ (by omega)).mono ?_
  rintro e' w5 ⟨he, hb⟩
  rw [← HP.out] at he
  subst he
  have hb3 := H3.out.ext hb
  have hw5 := below_ext HW4.out hb
  have hlt5 : w.heap.size < w5.heap.size := hb3.lt
  clear hb H3
  obtain ⟨p0, p1, p2, p3, p4, p5, p6, p7, p8, p9⟩ := ten_cells hb3
  have H3 := Lib.hid hb3; clear hb3
  have HW5 := Lib.hid hw5; clear hw5
  go_wp2_with fail
  go_at_call 15
  refine (end_any [a, b, c, d, e, f, g, h'] rfl n r _ (HK.out.ext HW5.out) (by omega) hn0 hn).mono ?_
  rintro e' w6 ⟨he, hb⟩
  have hz := HZ.out
  simp only [Prod.mk.injEq] at hz
  rw [hz.1, hz.2] at he
  subst he
  have hb3 := H3.out.ext hb
  have hw6 := below_ext HW5.out hb
  have hlt6 : w.heap.size < w6.heap.size := hb3.lt
  clear hb H3 p0 p1 p2 p3 p4 p5 p6 p7 p8 p9 hz
  obtain ⟨p0, p1, p2, p3, p4, p5, p6, p7, p8, p9⟩ := ten_cells hb3
  have H3 := Lib.hid hb3; clear hb3
  have HW6 := Lib.hid hw6; clear hw6
  go_wp2_with fail
  go_at_call 13
  refine (add_T [a, b, c, d, e, f, g, h'] rfl n r (bs []) _ (HK.out.ext HW6.out) (by rw [bs_size]; simp; omega) hn0 hn HZ1.out).mono ?_
  rintro e' w7 ⟨rfl, hb⟩
  have hb3 := H3.out.ext hb
  have hw7 := below_ext HW6.out hb
  have hlt7 : w.heap.size < w7.heap.size := hb3.lt
  clear hb H3 p0 p1 p2 p3 p4 p5 p6 p7 p8 p9
  have H3 := Lib.hid hb3; clear hb3
  have HW7 := Lib.hid hw7; clear hw7
  go_upto_region 5 with (fail)
  generalize hW4 : World.alloc _ _ = W4
  have hI : IsBlk W4 w7.heap.size #[.int .u32 a1, .int .u32 b1, .int .u32 c1, .int .u32 d1, .int .u32 e1, .int .u32 f1, .int .u32 g1, .int .u32 h1, .int .u64 n1, .string r1] 29 := by rw [← hW4]; exact IsBlk.new _ _ _
  have hX : IsBlk W4 w.heap.size #[.int .u32 a, .int .u32 b, .int .u32 c, .int .u32 d, .int .u32 e, .int .u32 f, .int .u32 g, .int .u32 h', .int .u64 n, .string r] 29 := by rw [← hW4]; exact H3.out.alloc _
  have hB : Below w.heap.size w W4 := by rw [← hW4]; exact HW7.out.alloc (by omega) _
  clear hW4 H3
  have H3 := Lib.hid hX; clear hX
  have HI := Lib.hid hI; clear hI
  have HB4 := Lib.hid hB; clear hB HW7
  rcases HL.out with ⟨rfl, rfl, heq, hq⟩ | ⟨rfl, rfl, rfl, heq⟩
  · simp only [Prod.mk.injEq, List.cons.injEq, and_true] at heq
    obtain ⟨⟨rfl, rfl, rfl, rfl, rfl, rfl, rfl, rfl⟩, rfl, rfl⟩ := heq
    obtain ⟨p0, p1, p2, p3, p4, p5, p6, p7, p8, p9⟩ := ten_cells H3.out
    obtain ⟨u0, u1, u2, u3, u4, u5, u6, u7, u8, u9⟩ := ten_cells HI.out
    have hqI : (q.size : Int) = 32 := by omega
    clear HL
    go_wp2_with fail
    go_ret
    exact ⟨rfl, HB4.out⟩
  · simp only [Prod.mk.injEq, List.cons.injEq, and_true] at heq
    obtain ⟨⟨rfl, rfl, rfl, rfl, rfl, rfl, rfl, rfl⟩, rfl, rfl⟩ := heq
    obtain ⟨p0, p1, p2, p3, p4, p5, p6, p7, p8, p9⟩ := ten_cells H3.out
    obtain ⟨u0, u1, u2, u3, u4, u5, u6, u7, u8, u9⟩ := ten_cells HI.out
    clear HL
    go_wp2_with fail
    · go_ret
      exact ⟨ret_bool rfl, HB4.out⟩
    · exfalso
      rename_i hh
      simp [bs] at hh
theorem outB_any_length (hs : List Int) (h : hs.length = 8) : (outB hs).length = 32 := by
  obtain ⟨a, b, c, d, e, f, g, h', rfl⟩ := of_eight h
  rfl
theorem turns_law (hs : List Int) (hl : hs.length = 8) (n : Int) (r : ByteArray) :
    ((endP hs n r).2 = 0 ∧ (addT hs n r (bs [])).2 = 0 ∧ (addT hs n r (bs [])).1 = (hs, n, r) ∧ (bs (endP hs n r).1).size = 32) ∨ ((endP hs n r).2 = 6 ∧ (addT hs n r (bs [])).2 = 6 ∧ bs (endP hs n r).1 = bs [] ∧ (addT hs n r (bs [])).1 = ([0, 0, 0, 0, 0, 0, 0, 0], 0, bs [])) := by
  have hz : (bs []).size = 0 := by rw [bs_size]; rfl
  by_cases hr : rightB n r.size = true
  · left
    have hr2 := rightB_iff.1 hr
    rw [addT_ok hr (by rw [hz]; omega), bs_toList, List.append_nil, more_short _ _ (by rw [← ba_size]; exact hr2.2.1), endP, if_pos hr, hz]
    refine ⟨rfl, rfl, ?_, ?_⟩
    · simp only [Prod.mk.injEq, true_and]
      exact ⟨by simp, bs_self r⟩
    · simp only []
      rw [bs_size]
      exact outB_any_length _ (more_length _ hl _)
  · right
    rw [addT_not hr, endP, if_neg hr]
    exact ⟨rfl, rfl, rfl, rfl⟩
theorem turns_any (x y : ByteArray) (hs : List Int) (hl : hs.length = 8) (n : Int) (r : ByteArray) (w : World) (hK : Ks w) (hr : r.size + x.size + y.size ≤ 1048576) (hn0 : 0 ≤ n) (hn : n < 18446744073709551616) :
    Calls Tryd.prog 6 #[.string x, .string y, shaV hs n r] w fun e' w' => e' = .returned (.bool true) ∧ Below w.heap.size w w' := by
  obtain ⟨a, b, c, d, e, f, g, h', rfl⟩ := of_eight hl
  obtain ⟨a1, b1, c1, d1, e1, f1, g1, h1, n1, r1, z1, hz1⟩ := addT_parts [a, b, c, d, e, f, g, h'] hl n r (bs [])
  have hlaw := turns_law [a, b, c, d, e, f, g, h'] hl n r
  simp only [hz1] at hlaw
  exact turns_walk x y a b c d e f g h' n r w hK hr hn0 hn _ _ rfl _ _ _ _ _ _ _ _ _ _ _ hz1 hlaw
end Go.Proofs.YtpnahmbhpbdpiaaDoor
