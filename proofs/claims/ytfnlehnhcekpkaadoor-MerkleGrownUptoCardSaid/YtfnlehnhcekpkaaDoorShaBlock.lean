/- What sha.block does to the words behind a pointer. Condition: the table of constants reads as the text lays it. -/
import Derived.Test.YtfnlehnhcekpkaaDoorShaPure
import Derived.Test.YtfnlehnhcekpkaaDoorProg
import Derived.WalkKit
import Derived.WalkSpells
import Derived.WalkLawsBesides
import Derived.Outline
import Derived.BigQuiet
import Derived.BigRegion
import Derived.Laws.BitsAllLaws
import Derived.Laws.CopyOwn
set_option linter.unusedVariables false
set_option linter.unusedSimpArgs false
namespace Go.Proofs.YtfnlehnhcekpkaaDoor
open Go Go.RowKit Go.BigFrame
set_option maxRecDepth 100000

theorem and31 (n : Int) (h : 1 ≤ n) (h' : n ≤ 31) : bits .and .u64 (IntKind.u64.wrap (-n)) 31 = 32 - n := by
  obtain ⟨m, rfl⟩ := Int.eq_ofNat_of_zero_le (show 0 ≤ n by omega)
  have hm : m < 32 := by omega
  have key : ∀ m : Fin 32, 1 ≤ m.val → bits .and .u64 (IntKind.u64.wrap (-(m.val:Int))) 31 = 32 - (m.val : Int) := by decide +kernel
  exact key ⟨m, hm⟩ (by simp; omega)
theorem ret_u32 {a b : Int} (h : a = b) : Ending.returned (.int .u32 a) = .returned (.int .u32 b) := by rw [h]
set_option maxHeartbeats 400000 in
theorem rotr_any (x n : Int) (w : World) (h : 1 ≤ n) (h' : n ≤ 31) :
    Calls Tryd.prog 79 #[.int .u32 x, .int .i64 n] w fun e w' => e = .returned (.int .u32 (rot x n)) ∧ w = w' := by
  have hs := and31 n h h'
  have h32 : 32 - (32 - n) = n := by omega
  go_enter Tryd.func79, Tryd.ntmps79
  go_wp2
  go_ret
  exact ⟨ret_u32 (by unfold rot; first | rfl | rw [h32]), rfl⟩

theorem word_or (l : List UInt8) (k : Nat) :
    bits .or .u32 (bits .or .u32 (bits .or .u32 (by_ l (4 * k) % 4294967296 * 16777216 % 4294967296) (by_ l (4 * k + 1) % 4294967296 * 65536 % 4294967296)) (by_ l (4 * k + 2) % 4294967296 * 256 % 4294967296)) (by_ l (4 * k + 3) % 4294967296) = word l k := by
  have key : ∀ a b c d : Nat, a < 256 → b < 256 → c < 256 → d < 256 →
      bits .or .u32 (bits .or .u32 (bits .or .u32 ((a : Int) % 4294967296 * 16777216 % 4294967296) ((b : Int) % 4294967296 * 65536 % 4294967296)) ((c : Int) % 4294967296 * 256 % 4294967296)) ((d : Int) % 4294967296) = (a : Int) * 16777216 + b * 65536 + c * 256 + d := by
    intro a b c d ha hb hc hd
    rw [show (a : Int) % 4294967296 * 16777216 % 4294967296 = ((a * 16777216 : Nat) : Int) by omega, show (b : Int) % 4294967296 * 65536 % 4294967296 = ((b * 65536 : Nat) : Int) by omega,
      show (c : Int) % 4294967296 * 256 % 4294967296 = ((c * 256 : Nat) : Int) by omega, show (d : Int) % 4294967296 = (d : Int) by omega]
    rw [u32_or_nat _ _ (by omega) (by omega), nat_join 24 _ _ (by omega) (by omega), u32_or_nat _ _ (by omega) (by omega), nat_join 16 _ _ (by omega) (by omega), u32_or_nat _ _ (by omega) (by omega), nat_join 8 _ _ (by omega) (by omega)]
    omega
  unfold word by_
  have h0 := (l.getD (4 * k) 0).toNat_lt
  have h1 := (l.getD (4 * k + 1) 0).toNat_lt
  have h2 := (l.getD (4 * k + 2) 0).toNat_lt
  have h3 := (l.getD (4 * k + 3) 0).toNat_lt
  exact key _ _ _ _ h0 h1 h2 h3

/-- The constants' variable holds the table. -/
def Ks (w : World) : Prop := ∃ t fr, w.heap[2]? = some (.cells (u32s kTab) t fr)
theorem Ks.lt {w : World} (h : Ks w) : 2 < w.heap.size := by
  obtain ⟨t, fr, h⟩ := h
  rcases Nat.lt_or_ge 2 w.heap.size with h' | h'
  · exact h'
  · simp [Array.getElem?_eq_none h'] at h
theorem Ks.below {w w' : World} (h : Ks w) {B : Nat} (hb : Below B w w') (hB : 2 < B) : Ks w' := by
  obtain ⟨t, fr, h⟩ := h
  exact ⟨t, fr, (hb.block 2 hB).trans h⟩
theorem Ks.ext {w w' : World} (h : Ks w) (hb : Below w.heap.size w w') : Ks w' := h.below hb h.lt

theorem run_index_u32 {P : Program} (t e : TypeId) (n : Nat) (xs : List Int) (i : Nat) (ht : P.underlying t = some (.array n e)) (hd : P.underlying e = some (.int .u32)) (hi : ∀ w, (sizeOf e).run P w = .ok 1 w) (hn : xs.length = n) (h : i < n) (w : World) :
    (Instr.index t (.agg (u32s xs)) (.int .i64 i)).run P w = .ok (.int .u32 (xs[i]?.getD 0)) w := by
  have h1 : (0 ≤ (i : Int) ∧ (i : Int) < (n : Int)) := by omega
  have h2 : (u32s xs)[i]? = some (.int .u32 (xs[i]?.getD 0)) := u32s_get' (by omega)
  simp [Instr.index, run_underlying ht, asIntOf, h1, part, isAgg, run_underlying hd, hi, h2]
  omega

set_option maxHeartbeats 4000000 in
theorem block_any (g : Nat) (w : World) (a b c d e f g' h' : Int) (n : Value) (r : Value) (hw : IsBlk w g (u32s [a, b, c, d, e, f, g', h'] ++ #[n, r]) 89) (hg0 : 0 < g) (hK : Ks w)
   (s : ByteArray) (hs : 64 ≤ s.size) (hs' : s.size ≤ 281474976710656) :
    Calls Tryd.prog 69 #[.pointer (some ⟨g, 0, none⟩), .string s] w fun e' w' => e' = .returned (.tuple #[]) ∧ w.grownBy w' (some g) ∧ IsBlk w' g (u32s (blk [a, b, c, d, e, f, g', h'] s.data.toList) ++ #[n, r]) 89 := by
  obtain ⟨l, hl⟩ : ∃ l, l = s.data.toList := ⟨_, rfl⟩
  have hgl := hw.lt
  have HW := Lib.hid hw; clear hw
  have HK := Lib.hid hK; clear hK
  have HL := Lib.hid hl; clear hl
  go_enter Tryd.func69, Tryd.ntmps69
  go_wp2
  go_loopw [21] (fun i wr => ∃ k : Nat, k ≤ 16 ∧ i = .int .i64 k ∧ Below w.heap.size w wr ∧ IsBlk wr w.heap.size (u32s (schedA l k)) 110) (fun i _ => 16 - (intOf i).toNat)
  case atStart =>
    exact ⟨0, by omega, rfl, (Below.refl _ _).alloc (Nat.le_refl _) _, IsBlk.new _ _ _⟩
  case round =>
  obtain ⟨k, hk, rfl, hb, hblk⟩ := hrel
  by_cases hlt : k < 16
  · have hcell : wr.cell? ⟨w.heap.size, k, none⟩ = some (.int .u32 ((schedA l k)[k]?.getD 0)) := hblk.cell (u32s_get' (by rw [schedA_length _ _ (by omega)]; omega))
    have hfr : wr.frozen? ⟨w.heap.size, k, none⟩ = false := hblk.frozen k
    have H := Lib.hid hblk; clear hblk
    have hbsz := hb.size
    have HB := Lib.hid hb; clear hb
    have i0 : 4 * (k : Int) < (s.size : Int) := by omega
    have i1 : 4 * (k : Int) + 1 < (s.size : Int) := by omega
    have i2 : 4 * (k : Int) + 2 < (s.size : Int) := by omega
    have i3 : 4 * (k : Int) + 3 < (s.size : Int) := by omega
    have j0 : 0 ≤ 4 * (k : Int) := by omega
    have j1 : 0 ≤ 4 * (k : Int) + 1 := by omega
    have j2 : 0 ≤ 4 * (k : Int) + 2 := by omega
    have j3 : 0 ≤ 4 * (k : Int) + 3 := by omega
    go_wp2
    go_region
    go_wp2
    go_roundw
    case rel =>
      rw [by_at, by_at, by_at, by_at, ← HL.out, word_or]
      refine ⟨k + 1, by omega, by go_num, (HB.out.setCell (Nat.le_refl _) _).drew, ?_⟩
      have := H.out.set k (.int .u32 (word l k))
      rw [u32s_set, schedA_set l k (by omega) _ (by rw [if_pos hlt])] at this
      exact this
    case measure => simp [intOf]; omega
  · rw [show (k : Int) = 16 by omega]
    obtain rfl : k = 16 := by omega
    clear hlt hk
    have hbsz := hb.size
    have H := Lib.hid hblk; clear hblk
    have HB := Lib.hid hb; clear hb
    go_wp2
    go_loopw [6] (fun i wr => ∃ k : Nat, 16 ≤ k ∧ k ≤ 64 ∧ i = .int .i64 k ∧ Below w.heap.size w wr ∧ IsBlk wr w.heap.size (u32s (schedA l k)) 110) (fun i _ => 64 - (intOf i).toNat)
    case atStart => exact ⟨16, by omega, by omega, rfl, HB.out, H.out⟩
    case round =>
    clear H HB hbsz
    obtain ⟨k, hk, hk', rfl, hb, hblk⟩ := hrel
    by_cases hlt : k < 64
    · have hl : (schedA l k).length = 64 := schedA_length _ _ hk'
      have hcell : wr.cell? ⟨w.heap.size, k, none⟩ = some (.int .u32 ((schedA l k)[k]?.getD 0)) := hblk.cell (u32s_get' (by omega))
      have hc2 : wr.cell? ⟨w.heap.size, k-2, none⟩ = some (.int .u32 ((sched l k)[k-2]?.getD 0)) := by rw [← schedA_get l k _ (by omega)]; exact hblk.cell (u32s_get' (by omega))
      have hc15 : wr.cell? ⟨w.heap.size, k-15, none⟩ = some (.int .u32 ((sched l k)[k-15]?.getD 0)) := by rw [← schedA_get l k _ (by omega)]; exact hblk.cell (u32s_get' (by omega))
      have hc16 : wr.cell? ⟨w.heap.size, k-16, none⟩ = some (.int .u32 ((sched l k)[k-16]?.getD 0)) := by rw [← schedA_get l k _ (by omega)]; exact hblk.cell (u32s_get' (by omega))
      have hc7 : wr.cell? ⟨w.heap.size, k-7, none⟩ = some (.int .u32 ((sched l k)[k-7]?.getD 0)) := by rw [← schedA_get l k _ (by omega)]; exact hblk.cell (u32s_get' (by omega))
      have hfr : wr.frozen? ⟨w.heap.size, k, none⟩ = false := hblk.frozen k
      have hlt1 : w.heap.size < wr.heap.size := hblk.lt
      have hbsz := hb.size
      have H := Lib.hid hblk; clear hblk
      have HB := Lib.hid hb; clear hb
      clear hl
      go_wp2
      go_region
      go_wp2
      refine mix_start [29] (Cls wr) (by kernel_rfl) (Cls.of (((Below.refl _ _).drew).drew)) ?_
      refine mix_flt (by kernel_rfl) [0, 1, 2, 3, 4, 5, 7, 10, 11, 14, 15, 16, 17, 19, 21, 24, 25] 13 _ _ (by kernel_rfl) ?_
      simp only [opsAt, List.map_cons, List.map_nil, List.toList_toArray, List.getD_cons_succ, List.getD_cons_zero]
      unfold Cls
      repeat (go_big_quiet_step (fail))
      refine wpQuiet_nil ?_
      (try rw [← Cls_def])
      refine mix_ch (i := 6) (fuel := 12) (by kernel_rfl) _ rfl (fun w1 hw1 => ?_)
      go_wp2_with (go_at_call 79; refine (rotr_any _ _ _ (by omega) (by omega)).mono ?_; rintro e w' ⟨rfl, rfl⟩)
      refine Then.same (hw1) ?_
      refine mix_ch (i := 8) (fuel := 11) (by kernel_rfl) _ rfl (fun w1 hw1 => ?_)
      go_wp2_with (go_at_call 79; refine (rotr_any _ _ _ (by omega) (by omega)).mono ?_; rintro e w' ⟨rfl, rfl⟩)
      refine Then.same (hw1) ?_
      refine mix_flt (by kernel_rfl) [9, 12, 13, 18] 7 _ _ (by kernel_rfl) ?_
      simp only [opsAt, List.map_cons, List.map_nil, List.toList_toArray, List.getD_cons_succ, List.getD_cons_zero]
      unfold Cls
      repeat (go_big_quiet_step (fail))
      refine wpQuiet_nil ?_
      (try rw [← Cls_def])
      refine mix_ch (i := 20) (fuel := 6) (by kernel_rfl) _ rfl (fun w1 hw1 => ?_)
      go_wp2_with (go_at_call 79; refine (rotr_any _ _ _ (by omega) (by omega)).mono ?_; rintro e w' ⟨rfl, rfl⟩)
      refine Then.same (hw1) ?_
      refine mix_ch (i := 22) (fuel := 5) (by kernel_rfl) _ rfl (fun w1 hw1 => ?_)
      go_wp2_with (go_at_call 79; refine (rotr_any _ _ _ (by omega) (by omega)).mono ?_; rintro e w' ⟨rfl, rfl⟩)
      refine Then.same (hw1) ?_
      refine mix_flt (by kernel_rfl) [23, 26, 27, 28] 1 _ _ (by kernel_rfl) ?_
      simp only [opsAt, List.map_cons, List.map_nil, List.toList_toArray, List.getD_cons_succ, List.getD_cons_zero]
      unfold Cls
      repeat (go_big_quiet_step (fail))
      refine wpQuiet_nil ?_
      (try rw [← Cls_def])
      refine mix_end [29] (by kernel_rfl) (fun w1 hw1 => ?_)
      simp only [opsAt, List.map_cons, List.map_nil, List.toList_toArray, List.getD_cons_succ, List.getD_cons_zero]
      obtain ⟨x, rfl⟩ := hw1
      go_wp2
      refine Calm.normal ?_
      go_wp2
      go_roundw
      case rel =>
        have hB : Below wr.heap.size wr (ext wr x) := ext_below wr x
        refine ⟨k + 1, by omega, by omega, by go_num, (Below.trans HB.out (hB.mono hbsz)).setCell (Nat.le_refl _) _, ?_⟩
        have := (H.out.ext hB).set k (.int .u32 (nextW (sched l k) k))
        rw [u32s_set, schedA_set l k (by omega) _ (by rw [if_neg (by omega)])] at this
        exact this
      case measure => simp [intOf]; omega
    · rw [show (k : Int) = 64 by omega]
      obtain rfl : k = 64 := by omega
      clear hlt hk hk'
      have hbsz := hb.size
      have hN : w.heap.size < wr.heap.size := hblk.lt
      have hw := HW.out.below hb hgl
      have c0 : wr.cell? ⟨g, 0, none⟩ = some (.int .u32 a) := hw.cell rfl
      have c1 : wr.cell? ⟨g, 1, none⟩ = some (.int .u32 b) := hw.cell rfl
      have c2 : wr.cell? ⟨g, 2, none⟩ = some (.int .u32 c) := hw.cell rfl
      have c3 : wr.cell? ⟨g, 3, none⟩ = some (.int .u32 d) := hw.cell rfl
      have c4 : wr.cell? ⟨g, 4, none⟩ = some (.int .u32 e) := hw.cell rfl
      have c5 : wr.cell? ⟨g, 5, none⟩ = some (.int .u32 f) := hw.cell rfl
      have c6 : wr.cell? ⟨g, 6, none⟩ = some (.int .u32 g') := hw.cell rfl
      have c7 : wr.cell? ⟨g, 7, none⟩ = some (.int .u32 h') := hw.cell rfl
      have H := Lib.hid hblk; clear hblk
      have HB := Lib.hid hb; clear hb
      clear hw
      obtain ⟨tk, fk, hk0⟩ := HK.out.below HB.out HK.out.lt
      have hkr : ∀ o, (wr.alloc o).heap[2]? = some (.cells (u32s kTab) tk fk) := fun o => by rw [Below.heap_alloc _ _ _ (by omega)]; exact hk0
      have HKR := Lib.hid hkr; clear hkr hk0
      obtain ⟨wq, rfl⟩ : ∃ wo : World, wo = wr := ⟨_, rfl⟩
      go_wp2_with (refine wpList_load_row rfl 110 _ rfl 2 rfl tk _ fk _ (HKR.out _) Tryd.underlying110 rfl (by kernel_rfl) ?_)
      clear c0 c1 c2 c3 c4 c5 c6 c7
      go_loopw [101] (fun i wx => ∃ k : Nat, k ≤ 64 ∧ i = .int .i64 k ∧ Below wq.heap.size wq wx ∧ ∃ a1 b1 c1 d1 e1 f1 g1 h1 : Int, rnd (sched l 64) [a, b, c, d, e, f, g', h'] k = [a1, b1, c1, d1, e1, f1, g1, h1] ∧ IsBlk wx wq.heap.size (u32s [a1, b1, c1, d1, e1, f1, g1, h1]) 86) (fun i _ => 64 - (intOf i).toNat)
      case atStart =>
        exact ⟨0, by omega, rfl, (Below.refl _ _).alloc (Nat.le_refl _) _, a, b, c, d, e, f, g', h', rfl, IsBlk.new _ _ _⟩
      case round =>
      clear hbsz
      obtain ⟨k, hk, rfl, hb, a1, b1, c1, d1, e1, f1, g1, h1, hrnd, hblk⟩ := hrel
      by_cases hlt : k < 64
      · have HR := Lib.hid hrnd; clear hrnd
        have HX : ∀ wz : World, (Instr.index 110 (.agg (u32s kTab)) (.int .i64 k)).run Tryd.prog wz = .ok (.int .u32 (kTab[k]?.getD 0)) wz := run_index_u32 110 64 64 kTab k Tryd.underlying110 Tryd.underlying64 (fun _ => by kernel_rfl) kTab_length hlt
        have k0 : wr.cell? ⟨wq.heap.size, 0, none⟩ = some (.int .u32 a1) := hblk.cell rfl
        have k1 : wr.cell? ⟨wq.heap.size, 1, none⟩ = some (.int .u32 b1) := hblk.cell rfl
        have k2 : wr.cell? ⟨wq.heap.size, 2, none⟩ = some (.int .u32 c1) := hblk.cell rfl
        have k3 : wr.cell? ⟨wq.heap.size, 3, none⟩ = some (.int .u32 d1) := hblk.cell rfl
        have k4 : wr.cell? ⟨wq.heap.size, 4, none⟩ = some (.int .u32 e1) := hblk.cell rfl
        have k5 : wr.cell? ⟨wq.heap.size, 5, none⟩ = some (.int .u32 f1) := hblk.cell rfl
        have k6 : wr.cell? ⟨wq.heap.size, 6, none⟩ = some (.int .u32 g1) := hblk.cell rfl
        have k7 : wr.cell? ⟨wq.heap.size, 7, none⟩ = some (.int .u32 h1) := hblk.cell rfl
        have kw : wr.cell? ⟨w.heap.size, k, none⟩ = some (.int .u32 ((sched l 64)[k]?.getD 0)) := by
          rw [hb.cell (p := ⟨w.heap.size, k, none⟩) hN, ← schedA_get l 64 _ hlt]
          exact H.out.cell (u32s_get' (by rw [schedA_length _ _ (by omega)]; omega))
        have hv1 : wq.heap.size < wr.heap.size := hblk.lt
        have hv2 : w.heap.size < wr.heap.size := by omega
        have H2 := Lib.hid hblk; clear hblk
        go_wp2
        refine mix_start [] (Cls wr) (by kernel_rfl) (Cls.of ((Below.refl _ _).drew)) ?_
        refine mix_flt (by kernel_rfl) [0, 1, 2, 3, 4, 5, 6, 7, 8, 9, 10, 11, 12, 13, 14, 15, 16, 17] 0 _ _ (by kernel_rfl) ?_
        simp only [opsAt, List.map_cons, List.map_nil, List.toList_toArray, List.getD_cons_succ, List.getD_cons_zero]
        unfold Cls
        repeat (go_big_quiet_step (fail))
        refine wpQuiet_nil ?_
        (try rw [← Cls_def])
        refine mix_end [] (by kernel_rfl) (fun w1 hw1 => ?_)
        refine wpList_nil ?_
        obtain ⟨x, rfl⟩ := hw1
        refine Calm.normal ?_
        go_wp2
        refine mix_start [] (Cls wr) (by kernel_rfl) (Cls.of ((ext_below wr x).drew)) ?_
        refine mix_flt (by kernel_rfl) [0, 1, 2, 4, 7, 11, 12, 13, 14, 15, 16, 17, 18, 20, 22, 23, 24] 10 _ _ (by kernel_rfl) ?_
        simp only [opsAt, List.map_cons, List.map_nil, List.toList_toArray, List.getD_cons_succ, List.getD_cons_zero]
        unfold Cls
        repeat (go_big_quiet_step (fail))
        refine wpQuiet_nil ?_
        (try rw [← Cls_def])
        refine mix_ch (i := 3) (fuel := 9) (by kernel_rfl) _ rfl (fun w1 hw1 => ?_)
        go_wp2_with (go_at_call 79; refine (rotr_any _ _ _ (by omega) (by omega)).mono ?_; rintro e w' ⟨rfl, rfl⟩)
        refine Then.same (hw1) ?_
        refine mix_ch (i := 5) (fuel := 8) (by kernel_rfl) _ rfl (fun w1 hw1 => ?_)
        go_wp2_with (go_at_call 79; refine (rotr_any _ _ _ (by omega) (by omega)).mono ?_; rintro e w' ⟨rfl, rfl⟩)
        refine Then.same (hw1) ?_
        refine mix_flt (by kernel_rfl) [6] 7 _ _ (by kernel_rfl) ?_
        simp only [opsAt, List.map_cons, List.map_nil, List.toList_toArray, List.getD_cons_succ, List.getD_cons_zero]
        unfold Cls
        repeat (go_big_quiet_step (fail))
        refine wpQuiet_nil ?_
        (try rw [← Cls_def])
        refine mix_ch (i := 8) (fuel := 6) (by kernel_rfl) _ rfl (fun w1 hw1 => ?_)
        go_wp2_with (go_at_call 79; refine (rotr_any _ _ _ (by omega) (by omega)).mono ?_; rintro e w' ⟨rfl, rfl⟩)
        refine Then.same (hw1) ?_
        refine mix_flt (by kernel_rfl) [9, 10, 19, 21, 25, 26] 0 _ _ (by kernel_rfl) ?_
        simp only [opsAt, List.map_cons, List.map_nil, List.toList_toArray, List.getD_cons_succ, List.getD_cons_zero]
        unfold Cls
        repeat (go_big_quiet_step (fail))
        refine wpQuiet_nil ?_
        (try rw [← Cls_def])
        refine mix_end [] (by kernel_rfl) (fun w1 hw1 => ?_)
        refine wpList_nil ?_
        obtain ⟨y, rfl⟩ := hw1
        refine Calm.normal ?_
        go_wp2_with (go_at_call 79; refine (rotr_any _ _ _ (by omega) (by omega)).mono ?_; rintro e w' ⟨rfl, rfl⟩)
        refine mix_start [2] (Cls wr) (by kernel_rfl) (Cls.of ((ext_below wr y).drew)) ?_
        refine mix_flt (by kernel_rfl) [0, 1] 1 _ _ (by kernel_rfl) ?_
        simp only [opsAt, List.map_cons, List.map_nil, List.toList_toArray, List.getD_cons_succ, List.getD_cons_zero]
        unfold Cls
        repeat (go_big_quiet_step (fail))
        refine wpQuiet_nil ?_
        (try rw [← Cls_def])
        refine mix_end [2] (by kernel_rfl) (fun w1 hw1 => ?_)
        simp only [opsAt, List.map_cons, List.map_nil, List.toList_toArray, List.getD_cons_succ, List.getD_cons_zero]
        obtain ⟨z, rfl⟩ := hw1
        have H3 := H2.out.ext (ext_below wr z)
        have hbz : Below wq.heap.size wq (ext wr z) := below_ext hb (ext_below wr z)
        refine wpList_copy_splice rfl _ _ _ _ rfl 64 Tryd.underlying112 (by kernel_rfl) _ _ _ _ _ _ rfl rfl wq.heap.size 1 [.int .u32 a1, .int .u32 b1, .int .u32 c1, .int .u32 d1, .int .u32 e1, .int .u32 f1, .int .u32 g1, .int .u32 h1] 86 H3 [.int .u32 a1, .int .u32 b1, .int .u32 c1, .int .u32 d1, .int .u32 e1, .int .u32 f1, .int .u32 g1] rfl (fun _ => ⟨rfl, _, rfl, ?_⟩) (by simp) (by simp [Value.oneCell']) wq.heap.size wq hbz (Nat.le_refl _) ?_
        · intro j v hj
          refine H3.add (o := 0) ?_
          have hj7 : j < 7 := by
            rcases Nat.lt_or_ge j 7 with h' | h'
            · exact h'
            · rw [List.getElem?_eq_none (by simpa using h')] at hj; cases hj
          rw [Nat.zero_add]
          rw [← hj]
          match j, hj7 with
          | 0, _ | 1, _ | 2, _ | 3, _ | 4, _ | 5, _ | 6, _ => rfl
        intro w2 hsp hb2
        have H4 : IsBlk w2 wq.heap.size (u32s [a1, a1, b1, c1, d1, e1, f1, g1]) 86 := hsp.out
        clear hsp H3 hbz
        have m0 : w2.cell? ⟨wq.heap.size, 0, none⟩ = some (.int .u32 a1) := H4.cell rfl
        have m4 : w2.cell? ⟨wq.heap.size, 4, none⟩ = some (.int .u32 d1) := H4.cell rfl
        have n0 : w2.frozen? ⟨wq.heap.size, 0, none⟩ = false := H4.frozen 0
        have n4 : w2.frozen? ⟨wq.heap.size, 4, none⟩ = false := H4.frozen 4
        have H5 := Lib.hid H4; clear H4
        have HB2 := Lib.hid hb2; clear hb2
        refine wpList_nil ?_
        refine Calm.normal ?_
        go_wp2
        go_roundw
        case rel =>
          refine ⟨k + 1, by omega, by go_num, (HB2.out.setCell (Nat.le_refl _) _).setCell (Nat.le_refl _) _, ?_⟩
          refine ⟨_, _, _, _, _, _, _, _, rnd_next HR.out, ?_⟩
          exact (H5.out.set32 0 _).set32 4 _
        case measure => simp [intOf]; omega
      · rw [show (k : Int) = 64 by omega]
        obtain rfl : k = 64 := by omega
        clear hlt hk
        have hbsz := hb.size
        have hv1 : wq.heap.size < wr.heap.size := hblk.lt
        have HR := Lib.hid hrnd; clear hrnd
        have H2 := Lib.hid hblk; clear hblk
        have hgw : IsBlk wr g (u32s [a, b, c, d, e, f, g', h'] ++ #[n, r]) 89 := (HW.out.below HB.out hgl).below hb (by omega)
        have HG := Lib.hid hgw; clear hgw
        have hbb : Below w.heap.size w wr := Below.trans HB.out (hb.mono (by omega))
        have HBB := Lib.hid hbb; clear hbb hb HB HK HKR H
        go_wp2
        go_loopw [176] (fun i wx => ∃ k : Nat, k ≤ 8 ∧ i = .int .i64 k ∧ w.grownBy wx (some g) ∧ IsBlk wx g (u32s (addN [a, b, c, d, e, f, g', h'] [a1, b1, c1, d1, e1, f1, g1, h1] k) ++ #[n, r]) 89 ∧ IsBlk wx wq.heap.size (u32s [a1, b1, c1, d1, e1, f1, g1, h1]) 86) (fun i _ => 8 - (intOf i).toNat)
        case atStart =>
          refine ⟨0, by omega, rfl, ?_, ?_, H2.out⟩
          · have := HBB.out
            exact ⟨this.os, this.tape, this.output, this.size, fun k hk _ => this.block k hk⟩
          · rw [addN_zero]; exact HG.out
        case round =>
        clear HBB HG hbsz H2 hv1
        obtain ⟨k, hk, rfl, hgr, hgb, hvb⟩ := hrel
        by_cases hlt : k < 8
        · have hl8 : (addN [a, b, c, d, e, f, g', h'] [a1, b1, c1, d1, e1, f1, g1, h1] k).length = 8 := addN_length _ _ _
          have q0 : wr.cell? ⟨g, k, none⟩ = some (.int .u32 ([a, b, c, d, e, f, g', h'][k]?.getD 0)) := by
            rw [← addN_at [a, b, c, d, e, f, g', h'] [a1, b1, c1, d1, e1, f1, g1, h1] k hlt]
            exact hgb.cell (u32s_app_get (by omega))
          have q1 : wr.frozen? ⟨g, k, none⟩ = false := hgb.frozen k
          have q2 : wr.cell? ⟨wq.heap.size, k, none⟩ = some (.int .u32 ([a1, b1, c1, d1, e1, f1, g1, h1][k]?.getD 0)) := hvb.cell (u32s_get' (by simpa using hlt))
          have q3 : g < wr.heap.size := hgb.lt
          have q4 : wq.heap.size < wr.heap.size := hvb.lt
          obtain ⟨x0, hx0⟩ : ∃ x0, x0 = [a, b, c, d, e, f, g', h'][k]?.getD 0 := ⟨_, rfl⟩
          obtain ⟨x1, hx1⟩ : ∃ x1, x1 = [a1, b1, c1, d1, e1, f1, g1, h1][k]?.getD 0 := ⟨_, rfl⟩
          rw [← hx0] at q0
          rw [← hx1] at q2
          have HX0 := Lib.hid hx0; clear hx0
          have HX1 := Lib.hid hx1; clear hx1
          have H1 := Lib.hid hgb; clear hgb
          have H2 := Lib.hid hvb; clear hvb
          have H3 := Lib.hid hgr; clear hgr
          have HL8 := Lib.hid hl8; clear hl8
          go_wp2
          refine mix_start [11] (Cls wr) (by kernel_rfl) (Cls.of ((Below.refl _ _).drew)) ?_
          refine mix_flt (by kernel_rfl) [0, 1, 2, 3, 4, 5, 6, 7, 8, 9, 10] 1 _ _ (by kernel_rfl) ?_
          simp only [opsAt, List.map_cons, List.map_nil, List.toList_toArray, List.getD_cons_succ, List.getD_cons_zero]
          unfold Cls
          repeat (go_big_quiet_step (fail))
          refine wpQuiet_nil ?_
          (try rw [← Cls_def])
          refine mix_end [11] (by kernel_rfl) (fun w1 hw1 => ?_)
          simp only [opsAt, List.map_cons, List.map_nil, List.toList_toArray, List.getD_cons_succ, List.getD_cons_zero]
          obtain ⟨x, rfl⟩ := hw1
          go_wp2
          refine Calm.normal ?_
          go_wp2
          go_roundw
          case rel =>
            have hbx := ext_below wr x
            refine ⟨k + 1, by omega, by go_num, ?_, ?_, (H2.out.ext hbx).set_other (by simp; omega) _⟩
            · have h3 := H3.out
              refine ⟨hbx.os.trans h3.os, hbx.tape.trans h3.tape, hbx.output.trans h3.output, by simpa using Nat.le_trans h3.size hbx.size, fun j hj hne => ?_⟩
              rw [Below.heap_setCell _ _ _ _ (fun e => hne (by rw [e])), hbx.block j (by have := h3.size; omega)]
              exact h3.block j hj hne
            · have := (H1.out.ext hbx).set k (.int .u32 ((x0 + x1) % 4294967296))
              rw [u32s_app_set _ (by have := HL8.out; omega), HX0.out, HX1.out, addN_set [a, b, c, d, e, f, g', h'] [a1, b1, c1, d1, e1, f1, g1, h1] k hlt] at this
              rw [HX0.out, HX1.out]
              exact this
          case measure => simp [intOf]; omega
        · obtain rfl : k = 8 := by omega
          clear hlt hk
          have H1 := Lib.hid hgb; clear hgb
          have H2 := Lib.hid hvb; clear hvb
          have H3 := Lib.hid hgr; clear hgr
          go_wp2
          go_end0
          refine ⟨rfl, H3.out, ?_⟩
          have := H1.out
          rw [← HR.out, HL.out] at this
          exact this
end Go.Proofs.YtfnlehnhcekpkaaDoor
