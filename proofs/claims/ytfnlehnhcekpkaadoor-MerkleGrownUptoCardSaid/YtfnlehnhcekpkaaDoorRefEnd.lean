/- codicilref01.End. No conditions. -/
import Derived.Test.YtfnlehnhcekpkaaDoorRefMore
import Derived.Deep.Cut
set_option linter.unusedVariables false
set_option linter.unusedSimpArgs false
namespace Go.Proofs.YtfnlehnhcekpkaaDoor
open Go Go.RowKit Go.BigFrame
set_option maxRecDepth 100000

theorem rightB_fact {n : Int} {k : Nat} (h : rightB n k = true) : n < 1152921504606846976 ∧ k < 64 ∧ (k : Int) = n % 64 := by simpa [rightB] using h
def lenOf : Value → Nat
  | .slice _ n _ => n
  | _ => 0
theorem zeros_succ (j : Nat) : 128 :: zeros (j + 1) = (128 :: zeros j) ++ [0] := by
  unfold zeros
  rw [List.replicate_succ', List.cons_append]
theorem zeros_length (j : Nat) : (zeros j).length = j := by simp [zeros]
theorem outB_take (hs : List Int) (k : Nat) (h : k < hs.length) : outB (hs.take (k + 1)) = outB (hs.take k) ++ [UInt8.ofNat (hs[k]?.getD 0 / 16777216 % 256).toNat, UInt8.ofNat (hs[k]?.getD 0 / 65536 % 256).toNat, UInt8.ofNat (hs[k]?.getD 0 / 256 % 256).toNat, UInt8.ofNat (hs[k]?.getD 0 % 256).toNat] := by
  unfold outB
  rw [List.take_succ_eq_append_getElem h, List.flatMap_append, List.getElem?_eq_getElem h]
  simp
theorem outB_take_length (hs : List Int) (k : Nat) (h : k ≤ hs.length) : (outB (hs.take k)).length = 4 * k := by
  induction k with
  | zero => rfl
  | succ k ih => rw [outB_take hs k (by omega), List.length_append, ih (by omega)]; simp; omega
theorem u8s_four (x : Int) : [Value.int .u8 (x / 16777216 % 256), Value.int .u8 (x / 65536 % 256), Value.int .u8 (x / 256 % 256), Value.int .u8 (x % 256)] = u8s [UInt8.ofNat (x / 16777216 % 256).toNat, UInt8.ofNat (x / 65536 % 256).toNat, UInt8.ofNat (x / 256 % 256).toNat, UInt8.ofNat (x % 256).toNat] := by
  simp only [u8s, List.map_cons, List.map_nil]
  rw [← u8_of (by omega) (by omega), ← u8_of (by omega) (by omega), ← u8_of (by omega) (by omega), ← u8_of (by omega) (by omega)]

set_option maxHeartbeats 4000000 in
theorem rend_eight (a b c d e f g h' : Int) (n : Int) (r : ByteArray) (w : World) (hr : r.size ≤ 281474976710656) (hn0 : 0 ≤ n) (hn : n < 18446744073709551616) (hrt : rightB n r.size = true) :
    Calls Tryd.prog 58 #[shaV [a, b, c, d, e, f, g, h'] n r] w fun e' w' =>
      e' = .returned (.tuple #[.string (bs (endOf [a, b, c, d, e, f, g, h'] r.data.toList n.toNat)), .int .i64 0]) ∧ Below w.heap.size w w' := by
  show Calls Tryd.prog 58 #[.agg #[.int .u32 a, .int .u32 b, .int .u32 c, .int .u32 d, .int .u32 e, .int .u32 f, .int .u32 g, .int .u32 h', .int .u64 n, .string r]] w _
  have hr64 : r.size < 64 := (rightB_fact hrt).2.1
  have hn60 : n < 1152921504606846976 := (rightB_fact hrt).1
  have hrm : (r.size : Int) = n % 64 := (rightB_fact hrt).2.2
  obtain ⟨Z, hZ⟩ : ∃ Z : Nat, Z = (119 - r.size) % 64 := ⟨_, rfl⟩
  have hZ64 : Z < 64 := by omega
  have HZ := Lib.hid hZ; clear hZ
  have HRM := Lib.hid hrm; clear hrm
  go_enter Tryd.func58, Tryd.ntmps58
  go_wp2_with fail
  go_at_call 72
  refine (rright_eight a b c d e f g h' n r _ hr hn0 hn).mono ?_
  rintro e' w1 ⟨rfl, hb⟩
  have hbx : IsBlk w1 w.heap.size #[.int .u32 a, .int .u32 b, .int .u32 c, .int .u32 d, .int .u32 e, .int .u32 f, .int .u32 g, .int .u32 h', .int .u64 n, .string r] 89 := (IsBlk.new w _ _).ext hb
  have hbw := below_at hb
  clear hb
  have hlt1 : w.heap.size < w1.heap.size := hbx.lt
  obtain ⟨p0, p1, p2, p3, p4, p5, p6, p7, p8, p9⟩ := ten_cells hbx
  have HB := Lib.hid hbx; clear hbx
  have HW := Lib.hid hbw; clear hbw
  obtain ⟨N, hN⟩ : ∃ N : Nat, N = 8 * n.toNat := ⟨_, rfl⟩
  have hNe : 8 * n = (N : Int) := by omega
  have HN := Lib.hid hN; clear hN
  go_wp2_with fail
  go_loopw [5] (fun v wr => ∃ j : Nat, j ≤ Z ∧ wr.ownsRow (w.heap.size + 1) 5 1 v (1 + j) (u8s (128 :: zeros j)) ∧ Below w.heap.size w wr ∧ IsBlk wr w.heap.size #[.int .u32 a, .int .u32 b, .int .u32 c, .int .u32 d, .int .u32 e, .int .u32 f, .int .u32 g, .int .u32 h', .int .u64 n, .string r] 89) (fun v _ => 65 - lenOf v)
  case atStart =>
    exact ⟨0, by omega, own_lit (cs := [.int .u8 128]) (IsBlk.new _ _ _) hlt1 rfl (by simp [maxLen]), HW.out.alloc (by omega) _, HB.out.alloc _⟩
  case round =>
  clear p0 p1 p2 p3 p4 p5 p6 p7 p8 p9
  obtain ⟨j, hj, hown, hbw, hbx⟩ := hrel
  obtain ⟨gg, cap, rfl, hgb, hgl, hkc, _⟩ := own_open hown (by omega)
  obtain ⟨p0, p1, p2, p3, p4, p5, p6, p7, p8, p9⟩ := ten_cells hbx
  have hlt2 := hbx.lt
  have HO := Lib.hid hown; clear hown
  have HW2 := Lib.hid hbw; clear hbw
  have HB2 := Lib.hid hbx; clear hbx
  by_cases hlt : j < Z
  · have hcond : ¬ ((r.size : Int) + ((1 + j : Nat) : Int)) % 64 = 56 := by have := HZ.out; omega
    go_wp2_with (at_builtin; refine push_at (w.heap.size + 1) rfl _ _ 102 5 (.int .u8 0) 1 rfl Tryd.underlying102 (by kernel_rfl) rfl (by decide) _ (1 + j) _ (own_alloc HO.out _) wr.heap.size 1 [_] (IsBlk.new _ _ _) rfl rfl rfl (by simp [Value.oneCell']) (by simp; omega) (by omega) ?_)
    intro v1 w3 hown3 hg3
    have hg4 : wr.grownBy w3 (Value.slice (some ⟨gg, 0, none⟩) (1 + j) cap).ownBlock := World.grownBy.trans (World.grownBy_alloc _ _ _) hg3
    have hob : ∀ i, (Value.slice (some ⟨gg, 0, none⟩) (1 + j) cap).ownBlock = some i → w.heap.size + 1 ≤ i := fun i hi => (HO.out.lt i hi).1
    have hown4 : w3.ownsRow (w.heap.size + 1) 5 1 v1 (1 + (j + 1)) (u8s (128 :: zeros (j + 1))) := by
      rw [zeros_succ, u8s_append]
      exact hown3
    obtain ⟨g4, cap4, hv4, _, _, _, _⟩ := own_open hown4 (by omega)
    clear hown3 hg3
    go_wp2
    go_roundw
    case rel =>
      exact ⟨j + 1, by omega, hown4, HW2.out.grown hg4 (by omega) (fun i hi => by have := hob i hi; omega), blk_grown HB2.out hg4 (fun e => by have := hob _ e; omega)⟩
    case measure =>
      rw [hv4]
      simp only [lenOf]
      omega
  · obtain rfl : j = Z := by omega
    obtain ⟨L, hL⟩ : ∃ L, L = 1 + j := ⟨_, rfl⟩
    have hO := HO.out
    clear HO
    rw [← hL] at hO hkc ⊢
    have hcond : ((r.size : Int) + (L : Int)) % 64 = 56 := by have := HZ.out; omega
    have hL64 : L ≤ 64 := by omega
    have HLJ := Lib.hid hL; clear hL
    have HO := Lib.hid hO; clear hO
    go_wp2_with fail
    clear hcond
    go_loopw [6, 5] (fun i v wr => ∃ k : Nat, k ≤ 8 ∧ i = .int .i64 (7 - (k : Int)) ∧ wr.ownsRow (w.heap.size + 1) 5 1 v (L + k) (u8s (128 :: zeros j ++ (bytes8 N).take k)) ∧ Below w.heap.size w wr ∧ IsBlk wr w.heap.size #[.int .u32 a, .int .u32 b, .int .u32 c, .int .u32 d, .int .u32 e, .int .u32 f, .int .u32 g, .int .u32 h', .int .u64 n, .string r] 89) (fun i _ _ => (intOf i + 1).toNat)
    case atStart => exact ⟨0, by omega, rfl, by simpa using HO.out, HW2.out, HB2.out⟩
    case round =>
    clear HO HW2 HB2 p0 p1 p2 p3 p4 p5 p6 p7 p8 p9
    obtain ⟨k, hk, rfl, hown, hbw, hbx⟩ := hrel
    obtain ⟨p0, p1, p2, p3, p4, p5, p6, p7, p8, p9⟩ := ten_cells hbx
    have hlt2 := hbx.lt
    have HO := Lib.hid hown; clear hown
    have HW2 := Lib.hid hbw; clear hbw
    have HB2 := Lib.hid hbx; clear hbx
    by_cases hlt8 : k < 8
    · have hs1 : 0 ≤ 8 * (7 - (k : Int)) := by omega
      have hs2 : 8 * (7 - (k : Int)) ≤ 64 := by omega
      have hs3 : (8 * (7 - (k : Int))).toNat = 56 - 8 * k := by omega
      go_wp2_with (at_builtin; refine push_at (w.heap.size + 1) rfl _ _ 102 5 (.int .u8 0) 1 rfl Tryd.underlying102 (by kernel_rfl) rfl (by decide) _ (L + k) _ (own_alloc HO.out _) wr.heap.size 1 [_] (IsBlk.new _ _ _) rfl rfl rfl (by simp [Value.oneCell']) (by simp; omega) (by omega) ?_)
      intro v1 w3 hown3 hg3
      have hg4 := World.grownBy.trans (World.grownBy_alloc _ _ _) hg3
      have hob : ∀ i, Value.ownBlock _ = some i → w.heap.size + 1 ≤ i := fun i hi => (HO.out.lt i hi).1
      have hown4 : w3.ownsRow (w.heap.size + 1) 5 1 v1 (L + (k + 1)) (u8s (128 :: zeros j ++ (bytes8 N).take (k + 1))) := by
        rw [← pad_step _ _ _ hlt8]
        exact hown3
      clear hown3 hg3
      go_wp2
      go_roundw
      case rel =>
        exact ⟨k + 1, by omega, by go_num, hown4, HW2.out.grown hg4 (by omega) (fun i hi => by have := hob i hi; omega), blk_grown HB2.out hg4 (fun e => by have := hob _ e; omega)⟩
      case measure => simp [intOf]; omega
    · rw [show (7 - (k : Int)) = -1 by omega]
      obtain rfl : k = 8 := by omega
      have hpad : 128 :: zeros j ++ (bytes8 N).take 8 = pad n.toNat := by
        have e1 : (bytes8 N).take 8 = bytes8 N := List.take_of_length_le (by rw [bytes8_length]; omega)
        have e2 : 8 * n.toNat % 18446744073709551616 = N := by have := HN.out; omega
        have e3 : (119 - n.toNat % 64) % 64 = j := by have := HZ.out; have := HRM.out; omega
        rw [e1, pad, e2, e3]
        rfl
      have hown := HO.out
      rw [hpad] at hown
      have hpl : (pad n.toNat).length = L + 8 := by rw [← hpad]; have := HLJ.out; simp [zeros, bytes8_length]; omega
      have hcv := run_string_own (P := Tryd.prog) (w := wr) 102 5 9 Tryd.underlying102 Tryd.underlying5 Tryd.underlying9 hown
      clear hown HO
      have HP := Lib.hid hpl; clear hpl hpad
      obtain ⟨hs1, hhs⟩ : ∃ hs1, hs1 = (more [a, b, c, d, e, f, g, h'] (r.data.toList ++ (bs (pad n.toNat)).data.toList)).1 := ⟨_, rfl⟩
      have hl8 : hs1.length = 8 := by rw [hhs]; exact more_length _ rfl _
      obtain ⟨a1, b1, c1, d1, e1, f1, g1, h1, hx⟩ := of_eight hl8
      go_wp2_with fail
      go_at_call 59
      refine (all_any [a, b, c, d, e, f, g, h'] rfl n r _ _ (by rw [bs_size, HP.out]; omega) hn0 hn).mono ?_
      rintro e' w3 ⟨he, hb3⟩
      obtain ⟨n1, hn1⟩ : ∃ n1 : Int, n1 = (n + ((bs (pad n.toNat)).size : Int)) % 18446744073709551616 := ⟨_, rfl⟩
      obtain ⟨r1, hr1⟩ : ∃ r1 : ByteArray, r1 = bs (more [a, b, c, d, e, f, g, h'] (r.data.toList ++ (bs (pad n.toNat)).data.toList)).2 := ⟨_, rfl⟩
      rw [← hhs, ← hn1, ← hr1, hx] at he
      have he2 : e' = .returned (.agg #[.int .u32 a1, .int .u32 b1, .int .u32 c1, .int .u32 d1, .int .u32 e1, .int .u32 f1, .int .u32 g1, .int .u32 h1, .int .u64 n1, .string r1]) := he
      subst he2
      clear he hr1 hn1 hl8
      have hbx3 := HB2.out.ext hb3
      have hbw3 := below_ext HW2.out hb3
      have hsz3 := hb3.size
      have HHS := Lib.hid (hhs.symm.trans hx); clear hhs hx hs1
      clear p0 p1 p2 p3 p4 p5 p6 p7 p8 p9 hb3 hcv
      obtain ⟨q0, q1, q2, q3, q4, q5, q6, q7, q8, q9⟩ := ten_cells hbx3
      have qf : ∀ j, w3.frozen? ⟨w.heap.size, j, none⟩ = false := fun j => hbx3.frozen j
      have hlt3 := hbx3.lt
      have HX3 := Lib.hid hbx3; clear hbx3
      have HW3 := Lib.hid hbw3; clear hbw3
      go_upto_region 12 with (fail)
      generalize hW4 : World.setCell _ _ _ = W4
      have hI : IsBlk W4 w.heap.size #[.int .u32 a1, .int .u32 b1, .int .u32 c1, .int .u32 d1, .int .u32 e1, .int .u32 f1, .int .u32 g1, .int .u32 h1, .int .u64 n1, .string r1] 89 := by rw [← hW4]; exact ten_set HX3.out _ _ _ _ _ _ _ _ _ _
      have hbW : Below w.heap.size w W4 := by rw [← hW4]; exact ten_below HW3.out (Nat.le_refl _) _ _ _ _ _ _ _ _ _ _
      clear hW4 HW3 HX3 q0 q1 q2 q3 q4 q5 q6 q7 q8 q9 qf hlt3 hsz3
      have hltW := hI.lt
      obtain ⟨q0, q1, q2, q3, q4, q5, q6, q7, q8, q9⟩ := ten_cells hI
      have HI := Lib.hid hI; clear hI
      have HBW := Lib.hid hbW; clear hbW
      go_wp2_with fail
      go_loopw [46, 7] (fun i v wr => ∃ k : Nat, k ≤ 8 ∧ i = .int .i64 (k : Int) ∧ wr.ownsRow w.heap.size 5 1 v (4 * k) (u8s (outB ([a1, b1, c1, d1, e1, f1, g1, h1].take k))) ∧ Below w.heap.size w wr) (fun i _ _ => 8 - (intOf i).toNat)
      case atStart => exact ⟨0, by omega, rfl, ⟨rfl, Or.inl ⟨rfl, rfl⟩⟩, HBW.out⟩
      case round =>
      clear q0 q1 q2 q3 q4 q5 q6 q7 q8 q9 HBW HI
      obtain ⟨k, hk, rfl, hown, hbw⟩ := hrel
      have hszr := hbw.size
      have HO := Lib.hid hown; clear hown
      have HW2 := Lib.hid hbw; clear hbw
      by_cases hlt : k < 8
      · have HX : ∀ wz : World, (Instr.index 86 (.agg #[.int .u32 a1, .int .u32 b1, .int .u32 c1, .int .u32 d1, .int .u32 e1, .int .u32 f1, .int .u32 g1, .int .u32 h1]) (.int .i64 k)).run Tryd.prog wz = .ok (.int .u32 ([a1, b1, c1, d1, e1, f1, g1, h1][k]?.getD 0)) wz := run_index_u32 86 64 8 [a1, b1, c1, d1, e1, f1, g1, h1] k Tryd.underlying86 Tryd.underlying64 (fun _ => by kernel_rfl) rfl hlt
        have hst := outB_take [a1, b1, c1, d1, e1, f1, g1, h1] k hlt
        obtain ⟨xk, hxk⟩ : ∃ xk, xk = [a1, b1, c1, d1, e1, f1, g1, h1][k]?.getD 0 := ⟨_, rfl⟩
        rw [← hxk] at HX hst
        clear hxk
        have HST := Lib.hid hst; clear hst
        go_wp2_with (at_builtin; refine push_at w.heap.size rfl _ _ 102 5 (.int .u8 0) 1 rfl Tryd.underlying102 (by kernel_rfl) rfl (by decide) _ (4 * k) _ (own_alloc HO.out _) wr.heap.size 4 [_, _, _, _] (IsBlk.new _ _ _) rfl rfl rfl (by simp [Value.oneCell']) (by simp; omega) (by omega) ?_)
        intro v1 w3 hown3 hg3
        have hg4 := World.grownBy.trans (World.grownBy_alloc _ _ _) hg3
        have hob : ∀ i, Value.ownBlock _ = some i → w.heap.size ≤ i := fun i hi => (HO.out.lt i hi).1
        have hown4 : w3.ownsRow w.heap.size 5 1 v1 (4 * (k + 1)) (u8s (outB ([a1, b1, c1, d1, e1, f1, g1, h1].take (k + 1)))) := by
          rw [HST.out, u8s_append, ← u8s_four]
          exact hown3
        clear hown3 hg3
        go_wp2
        go_roundw
        case rel =>
          exact ⟨k + 1, by omega, by go_num, hown4, HW2.out.grown hg4 (by omega) (fun i hi => hob i hi)⟩
        case measure => simp [intOf]; omega
      · rw [show (k : Int) = 8 by omega]
        obtain rfl : k = 8 := by omega
        have hown := HO.out
        rw [show [a1, b1, c1, d1, e1, f1, g1, h1].take 8 = [a1, b1, c1, d1, e1, f1, g1, h1] from rfl] at hown
        have hcv := run_string_own (P := Tryd.prog) (w := wr) 102 5 9 Tryd.underlying102 Tryd.underlying5 Tryd.underlying9 hown
        clear hown HO hlt hk
        go_wp2
        go_ret2
        refine ⟨?_, HW2.out⟩
        have hfin : outB [a1, b1, c1, d1, e1, f1, g1, h1] = endOf [a, b, c, d, e, f, g, h'] r.data.toList n.toNat := by
          rw [endOf, ← HHS.out]
          rfl
        rw [← hfin]
        rfl
set_option maxHeartbeats 1000000 in
theorem rend_not (a b c d e f g h' : Int) (n : Int) (r : ByteArray) (w : World) (hr : r.size ≤ 281474976710656) (hn0 : 0 ≤ n) (hn : n < 18446744073709551616) (hrt : rightB n r.size = false) :
    Calls Tryd.prog 58 #[shaV [a, b, c, d, e, f, g, h'] n r] w fun e' w' =>
      e' = .returned (.tuple #[.string (bs []), .int .i64 6]) ∧ Below w.heap.size w w' := by
  show Calls Tryd.prog 58 #[.agg #[.int .u32 a, .int .u32 b, .int .u32 c, .int .u32 d, .int .u32 e, .int .u32 f, .int .u32 g, .int .u32 h', .int .u64 n, .string r]] w _
  go_enter Tryd.func58, Tryd.ntmps58
  go_wp2_with fail
  go_at_call 72
  refine (rright_eight a b c d e f g h' n r _ hr hn0 hn).mono ?_
  rintro e' w1 ⟨rfl, hb⟩
  have hbw := below_at hb
  clear hb
  have HW := Lib.hid hbw; clear hbw
  go_wp2_with fail
  go_ret2
  exact ⟨rfl, HW.out⟩
theorem rend_any (hs : List Int) (hl : hs.length = 8) (n : Int) (r : ByteArray) (w : World) (hr : r.size ≤ 281474976710656) (hn0 : 0 ≤ n) (hn : n < 18446744073709551616) :
    Calls Tryd.prog 58 #[shaV hs n r] w fun e' w' => e' = .returned (.tuple #[.string (bs (endP hs n r).1), .int .i64 (endP hs n r).2]) ∧ Below w.heap.size w w' := by
  obtain ⟨a, b, c, d, e, f, g, h', rfl⟩ := of_eight hl
  unfold endP
  cases hrt : rightB n r.size with
  | true => exact rend_eight a b c d e f g h' n r w hr hn0 hn hrt
  | false => exact rend_not a b c d e f g h' n r w hr hn0 hn hrt
end Go.Proofs.YtfnlehnhcekpkaaDoor
