/- codicilref01.all. No conditions. -/
import Derived.Test.YtfnlehnhcekpkaaDoorRefBlock
import Derived.Test.YtfnlehnhcekpkaaDoorShaApp
set_option linter.unusedVariables false
set_option linter.unusedSimpArgs false
namespace Go.Proofs.YtfnlehnhcekpkaaDoor
open Go Go.RowKit Go.BigFrame
set_option maxRecDepth 100000

theorem blk_take (hs : List Int) (l : List UInt8) (h : 64 ≤ l.length) : blk hs (l.take 64) = blk hs l := by
  have := blk_app hs (l.take 64) (l.drop 64) (by rw [List.length_take]; omega)
  rw [List.take_append_drop] at this
  exact this.symm
theorem ext_take (s : ByteArray) : (s.extract 0 64).data.toList = s.data.toList.take 64 := by
  rw [ByteArray.data_extract, Array.toList_extract]
  simp [List.extract]
set_option maxHeartbeats 4000000 in
theorem all_eight (a b c d e f g h : Int) (n : Int) (r s : ByteArray) (w : World) (hr : r.size + s.size ≤ 281474976710656) (hn0 : 0 ≤ n) (hn : n < 18446744073709551616) :
    Calls Tryd.prog 59 #[shaV [a, b, c, d, e, f, g, h] n r, .string s] w fun e' w' =>
      e' = .returned (shaV (more [a, b, c, d, e, f, g, h] (r.data.toList ++ s.data.toList)).1 ((n + s.size) % 18446744073709551616) (bs (more [a, b, c, d, e, f, g, h] (r.data.toList ++ s.data.toList)).2)) ∧ Below w.heap.size w w' := by
  show Calls Tryd.prog 59 #[.agg #[.int .u32 a, .int .u32 b, .int .u32 c, .int .u32 d, .int .u32 e, .int .u32 f, .int .u32 g, .int .u32 h, .int .u64 n, .string r], .string s] w _
  go_enter Tryd.func59, Tryd.ntmps59
  go_wp2
  go_loopg [1] (r.size + s.size) (fun k v wr => ∃ (s1 : ByteArray) (a1 b1 c1 d1 e1 f1 g1 h1 : Int), v = .string s1 ∧ k = s1.size ∧ s1.size ≤ 281474976710656 ∧ more [a1, b1, c1, d1, e1, f1, g1, h1] s1.data.toList = more [a, b, c, d, e, f, g, h] (r.data.toList ++ s.data.toList) ∧
    IsBlk wr w.heap.size (u32s [a1, b1, c1, d1, e1, f1, g1, h1] ++ #[.int .u64 (IntKind.u64.wrap (n + s.size)), .string r]) 89 ∧
    IsBlk wr (w.heap.size + 1) (u32s [0, 0, 0, 0, 0, 0, 0, 0] ++ #[.int .u64 0, .string (bs [])]) 89 ∧ Below w.heap.size w wr)
  case atStart =>
    have e1 : (r ++ s).size = r.size + s.size := by simp
    refine ⟨r ++ s, a, b, c, d, e, f, g, h, rfl, e1.symm, by omega, by simp, (IsBlk.new w _ _).alloc _, ?_, ((Below.refl _ _).alloc (Nat.le_refl _) _).alloc (by simp) _⟩
    exact IsBlk.new_at (by simp)
  case round =>
  obtain ⟨s1, a1, b1, c1, d1, e1, f1, g1, h1, rfl, rfl, hs1, hm, hb1, hb2, hb⟩ := hrel
  have hN : w.heap.size < wr.heap.size := hb1.lt
  have HM := Lib.hid hm; clear hm
  have HB1 := Lib.hid hb1; clear hb1
  have HB2 := Lib.hid hb2; clear hb2
  have HB := Lib.hid hb; clear hb
  by_cases h6 : 64 ≤ s1.size
  · have hh : IsBlk wr w.heap.size #[.int .u32 a1, .int .u32 b1, .int .u32 c1, .int .u32 d1, .int .u32 e1, .int .u32 f1, .int .u32 g1, .int .u32 h1, .int .u64 (IntKind.u64.wrap (n + s.size)), .string r] 89 := HB1.out
    obtain ⟨p0, p1, p2, p3, p4, p5, p6, p7, p8, p9⟩ := ten_cells hh
    clear hh
    have h6I : (64 : Int) ≤ (s1.size : Int) := by omega
    go_wp2
    refine mix_start [4, 5, 6] (Cls wr) (by kernel_rfl) (Cls.of ((Below.refl _ _).drew)) ?_
    refine mix_flt (by kernel_rfl) [0, 1, 2, 3] 3 _ _ (by kernel_rfl) ?_
    simp only [opsAt, List.map_cons, List.map_nil, List.toList_toArray, List.getD_cons_succ, List.getD_cons_zero]
    unfold Cls
    repeat (go_big_quiet_step (fail))
    refine wpQuiet_nil ?_
    (try rw [← Cls_def])
    refine mix_end [4, 5, 6] (by kernel_rfl) (fun w1 hw1 => ?_)
    simp only [opsAt, List.map_cons, List.map_nil, List.toList_toArray, List.getD_cons_succ, List.getD_cons_zero]
    obtain ⟨x, rfl⟩ := hw1
    have hbx := ext_below wr x
    obtain ⟨a2, b2, c2, d2, e2, f2, g2, h2, hbl⟩ := of_eight (show (blk [a1, b1, c1, d1, e1, f1, g1, h1] s1.data.toList).length = 8 from blk_length _ _)
    have HBL := Lib.hid hbl; clear hbl
    have hnx : w.heap.size < (ext wr x).heap.size := by have := hbx.size; omega
    clear p0 p1 p2 p3 p4 p5 p6 p7 p8 p9
    go_wp2_with fail
    go_at_call 73
    refine (ref_block_any _ a1 b1 c1 d1 e1 f1 g1 h1 (s1.extract 0 64) (by simp; omega) (by simp; omega)).mono ?_
    rintro e' w2 ⟨he, hb⟩
    rw [ext_take, blk_take _ _ (by rw [← ba_size]; exact h6), HBL.out] at he
    have he2 : e' = .returned (.agg #[.int .u32 a2, .int .u32 b2, .int .u32 c2, .int .u32 d2, .int .u32 e2, .int .u32 f2, .int .u32 g2, .int .u32 h2]) := he
    subst he2
    clear he
    have hA : IsBlk w2 w.heap.size #[.int .u32 a1, .int .u32 b1, .int .u32 c1, .int .u32 d1, .int .u32 e1, .int .u32 f1, .int .u32 g1, .int .u32 h1, .int .u64 (IntKind.u64.wrap (n + s.size)), .string r] 89 := (HB1.out.ext hbx).ext hb
    have hB := (HB2.out.ext hbx).ext hb
    have hW := below_ext (below_ext HB.out hbx) hb
    obtain ⟨p0, p1, p2, p3, p4, p5, p6, p7, p8, p9⟩ := ten_cells hA
    have pf : ∀ j, w2.frozen? ⟨w.heap.size, j, none⟩ = false := fun j => hA.frozen j
    have hl2 : w.heap.size < w2.heap.size := hA.lt
    have HA := Lib.hid hA; clear hA
    have HBB := Lib.hid hB; clear hB hb
    have HW := Lib.hid hW; clear hW
    go_wp2
    refine Calm.normal ?_
    go_wp2
    have e64 : (s1.extract 64 s1.size).data.toList = s1.data.toList.drop 64 := Lib.extract_to_end s1 64
    have z64 : (s1.extract 64 s1.size).size = s1.size - 64 := by simp
    go_roundg (s1.extract 64 s1.size).size
    case measure => omega
    case rel =>
      refine ⟨_, a2, b2, c2, d2, e2, f2, g2, h2, rfl, rfl, by omega, ?_, ?_, ?_, eight_below HW.out (Nat.le_refl _) _ _ _ _ _ _ _ _⟩
      · rw [e64, ← HBL.out, ← more_long _ _ (by rw [← ba_size]; exact h6)]
        exact HM.out
      · have := (((((((HA.out.set 0 (.int .u32 a2)).set 1 (.int .u32 b2)).set 2 (.int .u32 c2)).set 3 (.int .u32 d2)).set 4 (.int .u32 e2)).set 5 (.int .u32 f2)).set 6 (.int .u32 g2)).set 7 (.int .u32 h2)
        simpa [u32s] using this
      · exact eight_other HBB.out (by omega) _ _ _ _ _ _ _ _
  · have HX : more [a1, b1, c1, d1, e1, f1, g1, h1] s1.data.toList = ([a1, b1, c1, d1, e1, f1, g1, h1], s1.data.toList) := more_short _ _ (by rw [← ba_size]; omega)
    rw [HM.out] at HX
    have HXX := Lib.hid HX; clear HX
    have hA : IsBlk wr w.heap.size #[.int .u32 a1, .int .u32 b1, .int .u32 c1, .int .u32 d1, .int .u32 e1, .int .u32 f1, .int .u32 g1, .int .u32 h1, .int .u64 (IntKind.u64.wrap (n + s.size)), .string r] 89 := HB1.out
    have hB : IsBlk wr (w.heap.size + 1) #[.int .u32 0, .int .u32 0, .int .u32 0, .int .u32 0, .int .u32 0, .int .u32 0, .int .u32 0, .int .u32 0, .int .u64 0, .string (bs [])] 89 := HB2.out
    obtain ⟨p0, p1, p2, p3, p4, p5, p6, p7, p8, p9⟩ := ten_cells hA
    obtain ⟨q0, q1, q2, q3, q4, q5, q6, q7, q8, q9⟩ := ten_cells hB
    have f1' : ∀ j, wr.frozen? ⟨w.heap.size, j, none⟩ = false := fun j => hA.frozen j
    have f2' : ∀ j, wr.frozen? ⟨w.heap.size + 1, j, none⟩ = false := fun j => hB.frozen j
    have hl1 := hA.lt
    have hl2 := hB.lt
    clear hA hB
    go_wp2
    have hwr : IntKind.u64.wrap (n + s.size) = (n + s.size) % 18446744073709551616 := by simp [IntKind.wrap, IntKind.bits, IntKind.signed]
    rw [HXX.out, ← hwr]
    generalize hW : World.setCell _ _ _ = W
    have hI : IsBlk W (w.heap.size + 1) #[.int .u32 a1, .int .u32 b1, .int .u32 c1, .int .u32 d1, .int .u32 e1, .int .u32 f1, .int .u32 g1, .int .u32 h1, .int .u64 (IntKind.u64.wrap (n + s.size)), .string s1] 89 := by
      rw [← hW]
      have HB2' : IsBlk wr (w.heap.size + 1) #[.int .u32 0, .int .u32 0, .int .u32 0, .int .u32 0, .int .u32 0, .int .u32 0, .int .u32 0, .int .u32 0, .int .u64 0, .string (bs [])] 89 := HB2.out
      exact ten_set (HB2'.set_other (a := ⟨w.heap.size, 9, none⟩) (by simp) (.string s1)) _ _ _ _ _ _ _ _ _ _
    have hbW : Below w.heap.size w W := by
      rw [← hW]
      exact ten_below (below_set HB.out (Nat.le_refl _)) (by omega) _ _ _ _ _ _ _ _ _ _
    clear hW
    exact bodyPost_ret (v := .agg #[.int .u32 a1, .int .u32 b1, .int .u32 c1, .int .u32 d1, .int .u32 e1, .int .u32 f1, .int .u32 g1, .int .u32 h1, .int .u64 (IntKind.u64.wrap (n + s.size)), .string s1]) (results_cell_row Tryd.results59 _ W (w.heap.size + 1) 89 _ (0, 0) _ rfl hI Tryd.underlying89 rfl (by kernel_rfl)) rfl ⟨rfl, hbW⟩
theorem all_any (hs : List Int) (hl : hs.length = 8) (n : Int) (r s : ByteArray) (w : World) (hr : r.size + s.size ≤ 281474976710656) (hn0 : 0 ≤ n) (hn : n < 18446744073709551616) :
    Calls Tryd.prog 59 #[shaV hs n r, .string s] w fun e' w' =>
      e' = .returned (shaV (more hs (r.data.toList ++ s.data.toList)).1 ((n + s.size) % 18446744073709551616) (bs (more hs (r.data.toList ++ s.data.toList)).2)) ∧ Below w.heap.size w w' := by
  obtain ⟨a, b, c, d, e, f, g, h, rfl⟩ := of_eight hl
  exact all_eight a b c d e f g h n r s w hr hn0 hn
end Go.Proofs.YtfnlehnhcekpkaaDoor
