/- codicillaw01.ShaStates: walk and law. Condition: the table of constants reads as the text lays it. -/
import Derived.Test.YtpnahmbhpbdpiaaDoorShaTop
import Derived.Test.YtpnahmbhpbdpiaaDoorShaGrows
import Derived.Test.YtpnahmbhpbdpiaaDoorRefSum
import Derived.Deep.Cut
set_option linter.unusedVariables false
set_option linter.unusedSimpArgs false
namespace Go.Proofs.YtpnahmbhpbdpiaaDoor
open Go Go.RowKit Go.BigFrame
set_option maxRecDepth 100000

theorem radd_T (hs : List Int) (hl : hs.length = 8) (n : Int) (r s : ByteArray) (w : World) (hr : r.size + s.size ≤ 281474976710656) (hn0 : 0 ≤ n) (hn : n < 18446744073709551616)
    {a1 b1 c1 d1 e1 f1 g1 h1 n1 : Int} {r1 : ByteArray} {z1 : Int} (hz : addT hs n r s = (([a1, b1, c1, d1, e1, f1, g1, h1], n1, r1), z1)) :
    Calls Tryd.prog 14 #[shaV hs n r, .string s] w fun e' w' => e' = .returned (.tuple #[.agg #[.int .u32 a1, .int .u32 b1, .int .u32 c1, .int .u32 d1, .int .u32 e1, .int .u32 f1, .int .u32 g1, .int .u32 h1, .int .u64 n1, .string r1], .int .i64 z1]) ∧ Below w.heap.size w w' := by
  have h := radd_any hs hl n r s w hr hn0 hn
  rw [addP_T, hz] at h
  exact h
set_option maxHeartbeats 4000000 in
theorem states_walk (a b c d e f g h' n : Int) (r x : ByteArray) (w : World) (hK : Ks w) (hr : r.size + x.size ≤ 1048576) (hn0 : 0 ≤ n) (hn : n < 18446744073709551616)
    (q : ByteArray) (z : Int) (hz : (bs (endP [a, b, c, d, e, f, g, h'] n r).1, (endP [a, b, c, d, e, f, g, h'] n r).2) = (q, z))
    (a1 b1 c1 d1 e1 f1 g1 h1 n1 : Int) (r1 : ByteArray) (z1 : Int) (hz1 : addT [a, b, c, d, e, f, g, h'] n r x = (([a1, b1, c1, d1, e1, f1, g1, h1], n1, r1), z1)) :
    Calls Tryd.prog 4 #[shaV [a, b, c, d, e, f, g, h'] n r, .string x] w fun e' w' => e' = .returned (.bool true) ∧ Below w.heap.size w w' := by
  show Calls Tryd.prog 4 #[.agg #[.int .u32 a, .int .u32 b, .int .u32 c, .int .u32 d, .int .u32 e, .int .u32 f, .int .u32 g, .int .u32 h', .int .u64 n, .string r], .string x] w _
  have HK := Lib.hid hK; clear hK
  have HZ := Lib.hid hz; clear hz
  have HZ1 := Lib.hid hz1; clear hz1
  go_enter Tryd.func4, Tryd.ntmps4
  go_wp2_with fail
  go_at_call 13
  refine (add_T [a, b, c, d, e, f, g, h'] rfl n r x _ (HK.out.ext ((Below.refl _ _).alloc (Nat.le_refl _) _)) (by omega) hn0 hn HZ1.out).mono ?_
  rintro e' w2 ⟨rfl, hb⟩
  have hb3 : IsBlk w2 w.heap.size #[.int .u32 a, .int .u32 b, .int .u32 c, .int .u32 d, .int .u32 e, .int .u32 f, .int .u32 g, .int .u32 h', .int .u64 n, .string r] 29 := (IsBlk.new w _ _).ext hb
  have hw2 : Below w.heap.size w w2 := below_at hb
  clear hb
  have H3 := Lib.hid hb3; clear hb3
  have HW2 := Lib.hid hw2; clear hw2
  go_upto_region 2 with (fail)
  generalize hV2 : World.alloc _ _ = V2
  have hI : IsBlk V2 w2.heap.size #[.int .u32 a1, .int .u32 b1, .int .u32 c1, .int .u32 d1, .int .u32 e1, .int .u32 f1, .int .u32 g1, .int .u32 h1, .int .u64 n1, .string r1] 29 := by rw [← hV2]; exact IsBlk.new _ _ _
  have hX : IsBlk V2 w.heap.size #[.int .u32 a, .int .u32 b, .int .u32 c, .int .u32 d, .int .u32 e, .int .u32 f, .int .u32 g, .int .u32 h', .int .u64 n, .string r] 29 := by rw [← hV2]; exact H3.out.alloc _
  have hB : Below w.heap.size w V2 := by rw [← hV2]; exact HW2.out.alloc HW2.out.size _
  have hS2 : V2.heap.size = w2.heap.size + 1 := by rw [← hV2]; simp
  have hlA : w.heap.size < V2.heap.size := hX.lt
  clear hV2 H3
  obtain ⟨p0, p1, p2, p3, p4, p5, p6, p7, p8, p9⟩ := ten_cells hX
  have H3 := Lib.hid hX; clear hX
  have I1 := Lib.hid hI; clear hI
  have HB2 := Lib.hid hB; clear hB HW2
  go_wp2_with fail
  go_at_call 14
  refine (radd_T [a, b, c, d, e, f, g, h'] rfl n r x _ (by omega) hn0 hn HZ1.out).mono ?_
  rintro e' w3 ⟨rfl, hb⟩
  have hb3 := H3.out.ext hb
  have hb4 := I1.out.ext hb
  have hw3 := below_ext HB2.out hb
  have hs3 : V2.heap.size ≤ w3.heap.size := hb.size
  clear hb H3 I1 p0 p1 p2 p3 p4 p5 p6 p7 p8 p9
  have H3 := Lib.hid hb3; clear hb3
  have I1 := Lib.hid hb4; clear hb4
  have HW3 := Lib.hid hw3; clear hw3
  go_upto_region 3 with (fail)
  generalize hV3 : World.alloc _ _ = V3
  have hI : IsBlk V3 w3.heap.size #[.int .u32 a1, .int .u32 b1, .int .u32 c1, .int .u32 d1, .int .u32 e1, .int .u32 f1, .int .u32 g1, .int .u32 h1, .int .u64 n1, .string r1] 29 := by rw [← hV3]; exact IsBlk.new _ _ _
  have hI1 : IsBlk V3 w2.heap.size #[.int .u32 a1, .int .u32 b1, .int .u32 c1, .int .u32 d1, .int .u32 e1, .int .u32 f1, .int .u32 g1, .int .u32 h1, .int .u64 n1, .string r1] 29 := by rw [← hV3]; exact I1.out.alloc _
  have hX : IsBlk V3 w.heap.size #[.int .u32 a, .int .u32 b, .int .u32 c, .int .u32 d, .int .u32 e, .int .u32 f, .int .u32 g, .int .u32 h', .int .u64 n, .string r] 29 := by rw [← hV3]; exact H3.out.alloc _
  have hB : Below w.heap.size w V3 := by rw [← hV3]; exact HW3.out.alloc HW3.out.size _
  have hlB : w.heap.size < V3.heap.size := hX.lt
  clear hV3 H3 I1
  obtain ⟨p0, p1, p2, p3, p4, p5, p6, p7, p8, p9⟩ := ten_cells hX
  have H3 := Lib.hid hX; clear hX
  have I1 := Lib.hid hI1; clear hI1
  have I2 := Lib.hid hI; clear hI
  have HB3 := Lib.hid hB; clear hB HW3
  go_wp2_with fail
  go_at_call 15
  refine (end_any [a, b, c, d, e, f, g, h'] rfl n r _ (HK.out.ext HB3.out) (by omega) hn0 hn).mono ?_
  rintro e' w4 ⟨he, hb⟩
  have hz := HZ.out
  simp only [Prod.mk.injEq] at hz
  rw [hz.1, hz.2] at he
  subst he
  clear hz
  have hb3 := H3.out.ext hb
  have hb4 := I1.out.ext hb
  have hb5 := I2.out.ext hb
  have hw4 := below_ext HB3.out hb
  have hlC : w.heap.size < w4.heap.size := hb3.lt
  clear hb H3 I1 I2 p0 p1 p2 p3 p4 p5 p6 p7 p8 p9
  obtain ⟨p0, p1, p2, p3, p4, p5, p6, p7, p8, p9⟩ := ten_cells hb3
  have I1 := Lib.hid hb4; clear hb4
  have I2 := Lib.hid hb5; clear hb5
  have HW4 := Lib.hid hw4; clear hw4 hb3
  go_wp2_with fail
  go_at_call 16
  refine (rend_any [a, b, c, d, e, f, g, h'] rfl n r _ (by omega) hn0 hn).mono ?_
  rintro e' w5 ⟨he, hb⟩
  have hz := HZ.out
  simp only [Prod.mk.injEq] at hz
  rw [hz.1, hz.2] at he
  subst he
  clear hz
  have hb4 := I1.out.ext hb
  have hb5 := I2.out.ext hb
  have hw5 := below_ext HW4.out hb
  clear hb I1 I2 p0 p1 p2 p3 p4 p5 p6 p7 p8 p9
  have I1 := Lib.hid hb4; clear hb4
  have I2 := Lib.hid hb5; clear hb5
  have HW5 := Lib.hid hw5; clear hw5
  go_wp2_with fail
  go_at_call 8
  refine (lives_any _ (HK.out.ext HW5.out)).mono ?_
  rintro e' w6 ⟨rfl, hb⟩
  have hb4 := I1.out.ext hb
  have hb5 := I2.out.ext hb
  have hw6 := below_ext HW5.out hb
  clear hb I1 I2
  have I1 := Lib.hid hb4; clear hb4
  have I2 := Lib.hid hb5; clear hb5
  have HW6 := Lib.hid hw6; clear hw6
  have hsv : shaV h0 0 (bs []) = .agg #[.int .u32 0x6a09e667, .int .u32 0xbb67ae85, .int .u32 0x3c6ef372, .int .u32 0xa54ff53a, .int .u32 0x510e527f, .int .u32 0x9b05688c, .int .u32 0x1f83d9ab, .int .u32 0x5be0cd19, .int .u64 0, .string (bs [])] := rfl
  go_wp2_with fail
  go_at_call 17
  refine (start_any _).mono ?_
  rintro e' w7 ⟨rfl, hb⟩
  have hb4 := I1.out.ext hb
  have hb5 := I2.out.ext hb
  have hw7 := below_ext HW6.out hb
  clear hb I1 I2
  have I1 := Lib.hid hb4; clear hb4
  have I2 := Lib.hid hb5; clear hb5
  have HW7 := Lib.hid hw7; clear hw7
  rw [hsv]
  go_wp2_with fail
  go_at_call 18
  refine (rstart_any _).mono ?_
  rintro e' w8 ⟨rfl, hb⟩
  have hb4 := I1.out.ext hb
  have hb5 := I2.out.ext hb
  have hw8 := below_ext HW7.out hb
  have hlD : w2.heap.size < w8.heap.size := hb4.lt
  have hlE : w3.heap.size < w8.heap.size := hb5.lt
  clear hb I1 I2
  obtain ⟨p0, p1, p2, p3, p4, p5, p6, p7, p8, p9⟩ := ten_cells hb4
  obtain ⟨u0, u1, u2, u3, u4, u5, u6, u7, u8, u9⟩ := ten_cells hb5
  have HW8 := Lib.hid hw8; clear hw8 hb4 hb5
  rw [hsv]
  clear hsv
  go_wp2_with fail
  go_ret
  exact ⟨rfl, HW8.out⟩
theorem states_any (hs : List Int) (hl : hs.length = 8) (n : Int) (r x : ByteArray) (w : World) (hK : Ks w) (hr : r.size + x.size ≤ 1048576) (hn0 : 0 ≤ n) (hn : n < 18446744073709551616) :
    Calls Tryd.prog 4 #[shaV hs n r, .string x] w fun e' w' => e' = .returned (.bool true) ∧ Below w.heap.size w w' := by
  obtain ⟨a, b, c, d, e, f, g, h', rfl⟩ := of_eight hl
  obtain ⟨a1, b1, c1, d1, e1, f1, g1, h1, n1, r1, z1, hz1⟩ := addT_parts [a, b, c, d, e, f, g, h'] hl n r x
  exact states_walk a b c d e f g h' n r x w hK hr hn0 hn _ _ rfl _ _ _ _ _ _ _ _ _ _ _ hz1
end Go.Proofs.YtpnahmbhpbdpiaaDoor
