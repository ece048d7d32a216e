/- codicilref01.Add, Sum, Hex, End. No conditions. -/
import Derived.Test.YtpnahmbhpbdpiaaDoorRefMore
set_option linter.unusedVariables false
set_option linter.unusedSimpArgs false
namespace Go.Proofs.YtpnahmbhpbdpiaaDoor
open Go Go.RowKit Go.BigFrame
set_option maxRecDepth 100000

set_option maxHeartbeats 4000000 in
theorem radd_ok (a b c d e f g h' : Int) (n : Int) (r s : ByteArray) (w : World) (hr : r.size + s.size ≤ 281474976710656) (hn0 : 0 ≤ n) (hn : n < 18446744073709551616) (hrt : rightB n r.size = true) (hsz : (s.size : Int) < 1152921504606846976 - n) :
    Calls Tryd.prog 14 #[shaV [a, b, c, d, e, f, g, h'] n r, .string s] w fun e' w' => e' = .returned (.tuple #[shaV (more [a, b, c, d, e, f, g, h'] (r.data.toList ++ s.data.toList)).1 (n + s.size) (bs (more [a, b, c, d, e, f, g, h'] (r.data.toList ++ s.data.toList)).2), .int .i64 0]) ∧ Below w.heap.size w w' := by
  show Calls Tryd.prog 14 #[.agg #[.int .u32 a, .int .u32 b, .int .u32 c, .int .u32 d, .int .u32 e, .int .u32 f, .int .u32 g, .int .u32 h', .int .u64 n, .string r], .string s] w _
  have hn60 : n < 1152921504606846976 := by simp [rightB] at hrt; exact hrt.1
  obtain ⟨hs1, hhs⟩ : ∃ hs1, hs1 = (more [a, b, c, d, e, f, g, h'] (r.data.toList ++ s.data.toList)).1 := ⟨_, rfl⟩
  have hl8 : hs1.length = 8 := by rw [hhs]; exact more_length _ rfl _
  obtain ⟨a1, b1, c1, d1, e1, f1, g1, h1, hx⟩ := of_eight hl8
  have HM := Lib.hid (hhs.symm.trans hx); clear hhs hx hl8 hs1
  rw [HM.out]
  obtain ⟨n1, hn1⟩ : ∃ n1 : Int, n1 = n + (s.size : Int) := ⟨_, rfl⟩
  obtain ⟨r1, hr1⟩ : ∃ r1 : ByteArray, r1 = bs (more [a, b, c, d, e, f, g, h'] (r.data.toList ++ s.data.toList)).2 := ⟨_, rfl⟩
  rw [← hn1, ← hr1]
  have HN1 := Lib.hid hn1; clear hn1
  have HR1 := Lib.hid hr1; clear hr1
  go_enter Tryd.func14, Tryd.ntmps14
  go_wp2_with fail
  go_at_call 24
  refine (rright_eight a b c d e f g h' n r _ (by omega) hn0 hn).mono ?_
  rintro e' w1 ⟨rfl, hb⟩
  have hbx : IsBlk w1 w.heap.size (u32s [a, b, c, d, e, f, g, h'] ++ #[.int .u64 n, .string r]) 29 := ((IsBlk.new w _ _).alloc _).ext hb
  have hby : IsBlk w1 (w.heap.size + 1) (u32s [0, 0, 0, 0, 0, 0, 0, 0] ++ #[.int .u64 0, .string (bs [])]) 29 := (IsBlk.new_at (by simp)).ext hb
  have hbw : Below w.heap.size w w1 := below_ext (((Below.refl _ _).alloc (Nat.le_refl _) _).alloc (by simp) _) hb
  have hltx := hbx.lt
  have hlty := hby.lt
  have p0 : w1.cell? ⟨w.heap.size, 0, none⟩ = some (.int .u32 a) := hbx.cell rfl
  have p1 : w1.cell? ⟨w.heap.size, 1, none⟩ = some (.int .u32 b) := hbx.cell rfl
  have p2 : w1.cell? ⟨w.heap.size, 2, none⟩ = some (.int .u32 c) := hbx.cell rfl
  have p3 : w1.cell? ⟨w.heap.size, 3, none⟩ = some (.int .u32 d) := hbx.cell rfl
  have p4 : w1.cell? ⟨w.heap.size, 4, none⟩ = some (.int .u32 e) := hbx.cell rfl
  have p5 : w1.cell? ⟨w.heap.size, 5, none⟩ = some (.int .u32 f) := hbx.cell rfl
  have p6 : w1.cell? ⟨w.heap.size, 6, none⟩ = some (.int .u32 g) := hbx.cell rfl
  have p7 : w1.cell? ⟨w.heap.size, 7, none⟩ = some (.int .u32 h') := hbx.cell rfl
  have p8 : w1.cell? ⟨w.heap.size, 8, none⟩ = some (.int .u64 n) := hbx.cell rfl
  have p9 : w1.cell? ⟨w.heap.size, 9, none⟩ = some (.string r) := hbx.cell rfl
  have q0 : w1.cell? ⟨w.heap.size + 1, 0, none⟩ = some (.int .u32 0) := hby.cell rfl
  have q1 : w1.cell? ⟨w.heap.size + 1, 1, none⟩ = some (.int .u32 0) := hby.cell rfl
  have q2 : w1.cell? ⟨w.heap.size + 1, 2, none⟩ = some (.int .u32 0) := hby.cell rfl
  have q3 : w1.cell? ⟨w.heap.size + 1, 3, none⟩ = some (.int .u32 0) := hby.cell rfl
  have q4 : w1.cell? ⟨w.heap.size + 1, 4, none⟩ = some (.int .u32 0) := hby.cell rfl
  have q5 : w1.cell? ⟨w.heap.size + 1, 5, none⟩ = some (.int .u32 0) := hby.cell rfl
  have q6 : w1.cell? ⟨w.heap.size + 1, 6, none⟩ = some (.int .u32 0) := hby.cell rfl
  have q7 : w1.cell? ⟨w.heap.size + 1, 7, none⟩ = some (.int .u32 0) := hby.cell rfl
  have q8 : w1.cell? ⟨w.heap.size + 1, 8, none⟩ = some (.int .u64 0) := hby.cell rfl
  have q9 : w1.cell? ⟨w.heap.size + 1, 9, none⟩ = some (.string (bs [])) := hby.cell rfl
  have qf : ∀ j, w1.frozen? ⟨w.heap.size + 1, j, none⟩ = false := fun j => hby.frozen j
  have HX := Lib.hid hbx; clear hbx
  have HY := Lib.hid hby; clear hby
  have HW := Lib.hid hbw; clear hbw hb
  go_wp2_with fail
  go_at_call 20
  refine (all_any [a, b, c, d, e, f, g, h'] rfl n r s _ hr hn0 hn).mono ?_
  rintro e' w2 ⟨he, hb⟩
  have e1 : (n + (s.size : Int)) % 18446744073709551616 = n + s.size := by omega
  rw [e1, HM.out, ← HN1.out, ← HR1.out] at he
  clear e1
  have he2 : e' = .returned (.agg #[.int .u32 a1, .int .u32 b1, .int .u32 c1, .int .u32 d1, .int .u32 e1, .int .u32 f1, .int .u32 g1, .int .u32 h1, .int .u64 n1, .string r1]) := he
  subst he2
  clear he
  have hby2 := HY.out.ext hb
  have hlt2 := hby2.lt
  have HW2 := Lib.hid (below_ext HW.out hb); clear hb
  clear q0 p0 q1 p1 q2 p2 q3 p3 q4 p4 q5 p5 q6 p6 q7 p7 q8 p8 q9 p9 qf
  have q0 : w2.cell? ⟨w.heap.size + 1, 0, none⟩ = some (.int .u32 0) := hby2.cell rfl
  have q1 : w2.cell? ⟨w.heap.size + 1, 1, none⟩ = some (.int .u32 0) := hby2.cell rfl
  have q2 : w2.cell? ⟨w.heap.size + 1, 2, none⟩ = some (.int .u32 0) := hby2.cell rfl
  have q3 : w2.cell? ⟨w.heap.size + 1, 3, none⟩ = some (.int .u32 0) := hby2.cell rfl
  have q4 : w2.cell? ⟨w.heap.size + 1, 4, none⟩ = some (.int .u32 0) := hby2.cell rfl
  have q5 : w2.cell? ⟨w.heap.size + 1, 5, none⟩ = some (.int .u32 0) := hby2.cell rfl
  have q6 : w2.cell? ⟨w.heap.size + 1, 6, none⟩ = some (.int .u32 0) := hby2.cell rfl
  have q7 : w2.cell? ⟨w.heap.size + 1, 7, none⟩ = some (.int .u32 0) := hby2.cell rfl
  have q8 : w2.cell? ⟨w.heap.size + 1, 8, none⟩ = some (.int .u64 0) := hby2.cell rfl
  have q9 : w2.cell? ⟨w.heap.size + 1, 9, none⟩ = some (.string (bs [])) := hby2.cell rfl
  have qf : ∀ j, w2.frozen? ⟨w.heap.size + 1, j, none⟩ = false := fun j => hby2.frozen j
  have HY2 := Lib.hid hby2; clear hby2
  go_wp2_with fail
  generalize hW4 : World.setCell _ _ _ = W4
  have hI : IsBlk W4 (w.heap.size + 1) #[.int .u32 a1, .int .u32 b1, .int .u32 c1, .int .u32 d1, .int .u32 e1, .int .u32 f1, .int .u32 g1, .int .u32 h1, .int .u64 n1, .string r1] 29 := by
    rw [← hW4]
    have HY3 : IsBlk w2 (w.heap.size + 1) #[.int .u32 0, .int .u32 0, .int .u32 0, .int .u32 0, .int .u32 0, .int .u32 0, .int .u32 0, .int .u32 0, .int .u64 0, .string (bs [])] 29 := HY2.out
    have := ((((((((((HY3).set 0 (.int .u32 a1)).set 1 (.int .u32 b1)).set 2 (.int .u32 c1)).set 3 (.int .u32 d1)).set 4 (.int .u32 e1)).set 5 (.int .u32 f1)).set 6 (.int .u32 g1)).set 7 (.int .u32 h1)).set 8 (.int .u64 n1)).set 9 (.string r1)
    simpa using this
  have hbW : Below w.heap.size w W4 := by
    rw [← hW4]
    iterate 10 refine below_set ?_ (Nat.le_succ _)
    exact HW2.out
  clear hW4
  exact bodyPost_ret (v := .tuple #[.agg #[.int .u32 a1, .int .u32 b1, .int .u32 c1, .int .u32 d1, .int .u32 e1, .int .u32 f1, .int .u32 g1, .int .u32 h1, .int .u64 n1, .string r1], .int .i64 0]) (results_ct Tryd.results14 rfl hI Tryd.underlying29 rfl (by kernel_rfl) rfl) rfl ⟨rfl, hbW⟩
set_option maxHeartbeats 4000000 in
theorem radd_range (a b c d e f g h' : Int) (n : Int) (r s : ByteArray) (w : World) (hr : r.size + s.size ≤ 281474976710656) (hn0 : 0 ≤ n) (hn : n < 18446744073709551616) (hrt : rightB n r.size = true) (hsz : ¬ (s.size : Int) < 1152921504606846976 - n) :
    Calls Tryd.prog 14 #[shaV [a, b, c, d, e, f, g, h'] n r, .string s] w fun e' w' => e' = .returned (.tuple #[shaV [0, 0, 0, 0, 0, 0, 0, 0] 0 (bs []), .int .i64 2]) ∧ Below w.heap.size w w' := by
  show Calls Tryd.prog 14 #[.agg #[.int .u32 a, .int .u32 b, .int .u32 c, .int .u32 d, .int .u32 e, .int .u32 f, .int .u32 g, .int .u32 h', .int .u64 n, .string r], .string s] w _
  have hn60 : n < 1152921504606846976 := by simp [rightB] at hrt; exact hrt.1
  go_enter Tryd.func14, Tryd.ntmps14
  go_wp2_with fail
  go_at_call 24
  refine (rright_eight a b c d e f g h' n r _ (by omega) hn0 hn).mono ?_
  rintro e' w1 ⟨rfl, hb⟩
  have hbx : IsBlk w1 w.heap.size (u32s [a, b, c, d, e, f, g, h'] ++ #[.int .u64 n, .string r]) 29 := ((IsBlk.new w _ _).alloc _).ext hb
  have hby : IsBlk w1 (w.heap.size + 1) (u32s [0, 0, 0, 0, 0, 0, 0, 0] ++ #[.int .u64 0, .string (bs [])]) 29 := (IsBlk.new_at (by simp)).ext hb
  have hbw : Below w.heap.size w w1 := below_ext (((Below.refl _ _).alloc (Nat.le_refl _) _).alloc (by simp) _) hb
  have hltx := hbx.lt
  have hlty := hby.lt
  have p0 : w1.cell? ⟨w.heap.size, 0, none⟩ = some (.int .u32 a) := hbx.cell rfl
  have p1 : w1.cell? ⟨w.heap.size, 1, none⟩ = some (.int .u32 b) := hbx.cell rfl
  have p2 : w1.cell? ⟨w.heap.size, 2, none⟩ = some (.int .u32 c) := hbx.cell rfl
  have p3 : w1.cell? ⟨w.heap.size, 3, none⟩ = some (.int .u32 d) := hbx.cell rfl
  have p4 : w1.cell? ⟨w.heap.size, 4, none⟩ = some (.int .u32 e) := hbx.cell rfl
  have p5 : w1.cell? ⟨w.heap.size, 5, none⟩ = some (.int .u32 f) := hbx.cell rfl
  have p6 : w1.cell? ⟨w.heap.size, 6, none⟩ = some (.int .u32 g) := hbx.cell rfl
  have p7 : w1.cell? ⟨w.heap.size, 7, none⟩ = some (.int .u32 h') := hbx.cell rfl
  have p8 : w1.cell? ⟨w.heap.size, 8, none⟩ = some (.int .u64 n) := hbx.cell rfl
  have p9 : w1.cell? ⟨w.heap.size, 9, none⟩ = some (.string r) := hbx.cell rfl
  have q0 : w1.cell? ⟨w.heap.size + 1, 0, none⟩ = some (.int .u32 0) := hby.cell rfl
  have q1 : w1.cell? ⟨w.heap.size + 1, 1, none⟩ = some (.int .u32 0) := hby.cell rfl
  have q2 : w1.cell? ⟨w.heap.size + 1, 2, none⟩ = some (.int .u32 0) := hby.cell rfl
  have q3 : w1.cell? ⟨w.heap.size + 1, 3, none⟩ = some (.int .u32 0) := hby.cell rfl
  have q4 : w1.cell? ⟨w.heap.size + 1, 4, none⟩ = some (.int .u32 0) := hby.cell rfl
  have q5 : w1.cell? ⟨w.heap.size + 1, 5, none⟩ = some (.int .u32 0) := hby.cell rfl
  have q6 : w1.cell? ⟨w.heap.size + 1, 6, none⟩ = some (.int .u32 0) := hby.cell rfl
  have q7 : w1.cell? ⟨w.heap.size + 1, 7, none⟩ = some (.int .u32 0) := hby.cell rfl
  have q8 : w1.cell? ⟨w.heap.size + 1, 8, none⟩ = some (.int .u64 0) := hby.cell rfl
  have q9 : w1.cell? ⟨w.heap.size + 1, 9, none⟩ = some (.string (bs [])) := hby.cell rfl
  have qf : ∀ j, w1.frozen? ⟨w.heap.size + 1, j, none⟩ = false := fun j => hby.frozen j
  have HX := Lib.hid hbx; clear hbx
  have HY := Lib.hid hby; clear hby
  have HW := Lib.hid hbw; clear hbw hb
  go_wp2_with fail
  generalize hW4 : World.setCell _ _ _ = W4
  have hI : IsBlk W4 (w.heap.size + 1) #[.int .u32 0, .int .u32 0, .int .u32 0, .int .u32 0, .int .u32 0, .int .u32 0, .int .u32 0, .int .u32 0, .int .u64 0, .string { data := #[] }] 29 := by
    rw [← hW4]
    have HY3 : IsBlk w1 (w.heap.size + 1) #[.int .u32 0, .int .u32 0, .int .u32 0, .int .u32 0, .int .u32 0, .int .u32 0, .int .u32 0, .int .u32 0, .int .u64 0, .string (bs [])] 29 := HY.out
    have := ((((((((((HY3).set 0 (.int .u32 0)).set 1 (.int .u32 0)).set 2 (.int .u32 0)).set 3 (.int .u32 0)).set 4 (.int .u32 0)).set 5 (.int .u32 0)).set 6 (.int .u32 0)).set 7 (.int .u32 0)).set 8 (.int .u64 0)).set 9 (.string { data := #[] })
    simpa using this
  have hbW : Below w.heap.size w W4 := by
    rw [← hW4]
    iterate 10 refine below_set ?_ (Nat.le_succ _)
    exact HW.out
  clear hW4
  exact bodyPost_ret (v := .tuple #[.agg #[.int .u32 0, .int .u32 0, .int .u32 0, .int .u32 0, .int .u32 0, .int .u32 0, .int .u32 0, .int .u32 0, .int .u64 0, .string (bs [])], .int .i64 2]) (results_ct Tryd.results14 rfl hI Tryd.underlying29 rfl (by kernel_rfl) rfl) rfl ⟨rfl, hbW⟩
set_option maxHeartbeats 4000000 in
theorem radd_state (a b c d e f g h' : Int) (n : Int) (r s : ByteArray) (w : World) (hr : r.size + s.size ≤ 281474976710656) (hn0 : 0 ≤ n) (hn : n < 18446744073709551616) (hrf : rightB n r.size = false) :
    Calls Tryd.prog 14 #[shaV [a, b, c, d, e, f, g, h'] n r, .string s] w fun e' w' => e' = .returned (.tuple #[shaV [0, 0, 0, 0, 0, 0, 0, 0] 0 (bs []), .int .i64 6]) ∧ Below w.heap.size w w' := by
  show Calls Tryd.prog 14 #[.agg #[.int .u32 a, .int .u32 b, .int .u32 c, .int .u32 d, .int .u32 e, .int .u32 f, .int .u32 g, .int .u32 h', .int .u64 n, .string r], .string s] w _
  go_enter Tryd.func14, Tryd.ntmps14
  go_wp2_with fail
  go_at_call 24
  refine (rright_eight a b c d e f g h' n r _ (by omega) hn0 hn).mono ?_
  rintro e' w1 ⟨rfl, hb⟩
  have hbx : IsBlk w1 w.heap.size (u32s [a, b, c, d, e, f, g, h'] ++ #[.int .u64 n, .string r]) 29 := ((IsBlk.new w _ _).alloc _).ext hb
  have hby : IsBlk w1 (w.heap.size + 1) (u32s [0, 0, 0, 0, 0, 0, 0, 0] ++ #[.int .u64 0, .string (bs [])]) 29 := (IsBlk.new_at (by simp)).ext hb
  have hbw : Below w.heap.size w w1 := below_ext (((Below.refl _ _).alloc (Nat.le_refl _) _).alloc (by simp) _) hb
  have hltx := hbx.lt
  have hlty := hby.lt
  have p0 : w1.cell? ⟨w.heap.size, 0, none⟩ = some (.int .u32 a) := hbx.cell rfl
  have p1 : w1.cell? ⟨w.heap.size, 1, none⟩ = some (.int .u32 b) := hbx.cell rfl
  have p2 : w1.cell? ⟨w.heap.size, 2, none⟩ = some (.int .u32 c) := hbx.cell rfl
  have p3 : w1.cell? ⟨w.heap.size, 3, none⟩ = some (.int .u32 d) := hbx.cell rfl
  have p4 : w1.cell? ⟨w.heap.size, 4, none⟩ = some (.int .u32 e) := hbx.cell rfl
  have p5 : w1.cell? ⟨w.heap.size, 5, none⟩ = some (.int .u32 f) := hbx.cell rfl
  have p6 : w1.cell? ⟨w.heap.size, 6, none⟩ = some (.int .u32 g) := hbx.cell rfl
  have p7 : w1.cell? ⟨w.heap.size, 7, none⟩ = some (.int .u32 h') := hbx.cell rfl
  have p8 : w1.cell? ⟨w.heap.size, 8, none⟩ = some (.int .u64 n) := hbx.cell rfl
  have p9 : w1.cell? ⟨w.heap.size, 9, none⟩ = some (.string r) := hbx.cell rfl
  have q0 : w1.cell? ⟨w.heap.size + 1, 0, none⟩ = some (.int .u32 0) := hby.cell rfl
  have q1 : w1.cell? ⟨w.heap.size + 1, 1, none⟩ = some (.int .u32 0) := hby.cell rfl
  have q2 : w1.cell? ⟨w.heap.size + 1, 2, none⟩ = some (.int .u32 0) := hby.cell rfl
  have q3 : w1.cell? ⟨w.heap.size + 1, 3, none⟩ = some (.int .u32 0) := hby.cell rfl
  have q4 : w1.cell? ⟨w.heap.size + 1, 4, none⟩ = some (.int .u32 0) := hby.cell rfl
  have q5 : w1.cell? ⟨w.heap.size + 1, 5, none⟩ = some (.int .u32 0) := hby.cell rfl
  have q6 : w1.cell? ⟨w.heap.size + 1, 6, none⟩ = some (.int .u32 0) := hby.cell rfl
  have q7 : w1.cell? ⟨w.heap.size + 1, 7, none⟩ = some (.int .u32 0) := hby.cell rfl
  have q8 : w1.cell? ⟨w.heap.size + 1, 8, none⟩ = some (.int .u64 0) := hby.cell rfl
  have q9 : w1.cell? ⟨w.heap.size + 1, 9, none⟩ = some (.string (bs [])) := hby.cell rfl
  have qf : ∀ j, w1.frozen? ⟨w.heap.size + 1, j, none⟩ = false := fun j => hby.frozen j
  have HX := Lib.hid hbx; clear hbx
  have HY := Lib.hid hby; clear hby
  have HW := Lib.hid hbw; clear hbw hb
  go_wp2_with fail
  generalize hW4 : World.setCell _ _ _ = W4
  have hI : IsBlk W4 (w.heap.size + 1) #[.int .u32 0, .int .u32 0, .int .u32 0, .int .u32 0, .int .u32 0, .int .u32 0, .int .u32 0, .int .u32 0, .int .u64 0, .string { data := #[] }] 29 := by
    rw [← hW4]
    have HY3 : IsBlk w1 (w.heap.size + 1) #[.int .u32 0, .int .u32 0, .int .u32 0, .int .u32 0, .int .u32 0, .int .u32 0, .int .u32 0, .int .u32 0, .int .u64 0, .string (bs [])] 29 := HY.out
    have := ((((((((((HY3).set 0 (.int .u32 0)).set 1 (.int .u32 0)).set 2 (.int .u32 0)).set 3 (.int .u32 0)).set 4 (.int .u32 0)).set 5 (.int .u32 0)).set 6 (.int .u32 0)).set 7 (.int .u32 0)).set 8 (.int .u64 0)).set 9 (.string { data := #[] })
    simpa using this
  have hbW : Below w.heap.size w W4 := by
    rw [← hW4]
    iterate 10 refine below_set ?_ (Nat.le_succ _)
    exact HW.out
  clear hW4
  exact bodyPost_ret (v := .tuple #[.agg #[.int .u32 0, .int .u32 0, .int .u32 0, .int .u32 0, .int .u32 0, .int .u32 0, .int .u32 0, .int .u32 0, .int .u64 0, .string (bs [])], .int .i64 6]) (results_ct Tryd.results14 rfl hI Tryd.underlying29 rfl (by kernel_rfl) rfl) rfl ⟨rfl, hbW⟩
theorem radd_any (hs : List Int) (hl : hs.length = 8) (n : Int) (r s : ByteArray) (w : World) (hr : r.size + s.size ≤ 281474976710656) (hn0 : 0 ≤ n) (hn : n < 18446744073709551616) :
    Calls Tryd.prog 14 #[shaV hs n r, .string s] w fun e' w' => e' = .returned (.tuple #[(addP hs n r s).1, .int .i64 (addP hs n r s).2]) ∧ Below w.heap.size w w' := by
  obtain ⟨a, b, c, d, e, f, g, h', rfl⟩ := of_eight hl
  unfold addP
  cases hrt : rightB n r.size with
  | true =>
    by_cases hsz : (s.size : Int) < 1152921504606846976 - n
    · rw [if_pos rfl, if_pos hsz]; exact radd_ok a b c d e f g h' n r s w hr hn0 hn hrt hsz
    · rw [if_pos rfl, if_neg hsz]; exact radd_range a b c d e f g h' n r s w hr hn0 hn hrt hsz
  | false => exact radd_state a b c d e f g h' n r s w hr hn0 hn hrt
end Go.Proofs.YtpnahmbhpbdpiaaDoor
