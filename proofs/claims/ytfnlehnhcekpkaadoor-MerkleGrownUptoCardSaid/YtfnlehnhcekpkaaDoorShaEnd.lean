/- sha.End: contract. Condition: the table of constants reads as the text lays it. -/
import Derived.Test.YtfnlehnhcekpkaaDoorShaMore
import Derived.Test.YtfnlehnhcekpkaaDoorOwn
import Derived.Deep.Cut
set_option linter.unusedVariables false
set_option linter.unusedSimpArgs false
namespace Go.Proofs.YtfnlehnhcekpkaaDoor
open Go Go.RowKit Go.BigFrame
set_option maxRecDepth 100000

def zeros (n : Nat) : List UInt8 := List.replicate n 0
theorem madeCells_u8 (n : Nat) : madeCells #[.int .u8 0] n = (u8s (zeros n)).toArray := by
  unfold zeros
  apply Array.ext
  · simp [madeCells, u8s]
  · intro i h1 h2
    simp [madeCells, u8s, Nat.mod_one]
theorem below_at {w w1 : World} {o : Obj} (h : Below (w.alloc o).heap.size (w.alloc o) w1) : Below w.heap.size w w1 := below_ext ((Below.refl _ _).alloc (Nat.le_refl _) o) h

theorem zeros_take (n L : Nat) (h1 : 1 ≤ L) (h2 : L ≤ n) : ((u8s (zeros n)).toArray.setIfInBounds 0 (.int .u8 128)).toList.take L = u8s (128 :: zeros (L - 1)) := by
  obtain ⟨m, rfl⟩ : ∃ m, L = m + 1 := ⟨L - 1, by omega⟩
  obtain ⟨k, rfl⟩ : ∃ k, n = k + 1 := ⟨n - 1, by omega⟩
  have hmn : min m k = m := by omega
  simp [u8s, zeros, List.replicate_succ, List.take_replicate, hmn]
theorem bytes8_take (N k : Nat) (h : k < 8) : (bytes8 N).take (k + 1) = (bytes8 N).take k ++ [UInt8.ofNat (N / 2 ^ (56 - 8 * k) % 256)] := by
  match k, h with
  | 0, _ | 1, _ | 2, _ | 3, _ | 4, _ | 5, _ | 6, _ | 7, _ => rfl
theorem bytes8_length (N : Nat) : (bytes8 N).length = 8 := rfl
theorem u8_nat (x : Nat) : (((UInt8.ofNat (x % 256)).toNat : Nat) : Int) = (x : Int) % 256 := by
  rw [UInt8.toNat_ofNat']
  omega
theorem pad_step (pre : List UInt8) (N k : Nat) (h : k < 8) : u8s (pre ++ (bytes8 N).take k) ++ [.int .u8 ((N : Int) / 2 ^ (56 - 8 * k) % 256)] = u8s (pre ++ (bytes8 N).take (k + 1)) := by
  rw [bytes8_take N k h, ← List.append_assoc, u8s_append _ [_], u8s_one, u8_nat]
  congr 1

theorem outB_length (a b c d e f g h : Int) : (outB [a, b, c, d, e, f, g, h]).length = 32 := rfl
theorem outB_step (a b c d e f g h : Int) (k : Nat) (hk : k < 32) :
    (u8s ((outB [a, b, c, d, e, f, g, h]).take k ++ zeros (32 - k))).toArray.setIfInBounds k (.int .u8 ([a, b, c, d, e, f, g, h][k / 4]?.getD 0 / 2 ^ (24 - 8 * (k % 4)) % 256)) =
    (u8s ((outB [a, b, c, d, e, f, g, h]).take (k + 1) ++ zeros (32 - (k + 1)))).toArray := by
  have hz : zeros (32 - k) = 0 :: zeros (32 - (k + 1)) := by
    unfold zeros
    rw [show 32 - k = (32 - (k + 1)) + 1 by omega, List.replicate_succ]
  have ht : (outB [a, b, c, d, e, f, g, h]).take (k + 1) = (outB [a, b, c, d, e, f, g, h]).take k ++ [UInt8.ofNat ([a, b, c, d, e, f, g, h][k / 4]?.getD 0 / 2 ^ (24 - 8 * (k % 4)) % 256).toNat] := by
    rw [List.take_succ_eq_append_getElem (by rw [outB_length]; exact hk)]
    congr 2
    match k, hk with
    | 0, _ | 1, _ | 2, _ | 3, _ | 4, _ | 5, _ | 6, _ | 7, _ | 8, _ | 9, _ | 10, _ | 11, _ | 12, _ | 13, _ | 14, _ | 15, _ | 16, _ | 17, _ | 18, _ | 19, _ | 20, _ | 21, _ | 22, _ | 23, _ | 24, _ | 25, _ | 26, _ | 27, _ | 28, _ | 29, _ | 30, _ => simp [outB]
    | 31, _ => simp [outB]
    | k + 32, h => exact absurd h (by omega)
  have hl : (u8s ((outB [a, b, c, d, e, f, g, h]).take k)).length = k := by rw [u8s_length, List.length_take, outB_length]; omega
  rw [hz, ht, List.setIfInBounds_toArray, u8s_append, List.set_append_right _ _ (by omega), hl, Nat.sub_self, u8s_append, u8s_append, List.append_assoc]
  have : ((UInt8.ofNat ([a, b, c, d, e, f, g, h][k / 4]?.getD 0 / 2 ^ (24 - 8 * (k % 4)) % 256).toNat).toNat : Int) = [a, b, c, d, e, f, g, h][k / 4]?.getD 0 / 2 ^ (24 - 8 * (k % 4)) % 256 := (u8_of (by omega) (by omega)).symm
  rw [u8s_one, this]
  rfl

set_option maxHeartbeats 4000000 in
theorem end_eight (a b c d e f g h' : Int) (n : Int) (r : ByteArray) (w : World) (hK : Ks w) (hr : r.size ≤ 281474976710656) (hn0 : 0 ≤ n) (hn : n < 18446744073709551616) (hrt : rightB n r.size = true) :
    Calls Tryd.prog 47 #[shaV [a, b, c, d, e, f, g, h'] n r] w fun e' w' =>
      e' = .returned (.tuple #[.string (bs (endOf [a, b, c, d, e, f, g, h'] r.data.toList n.toNat)), .int .i64 0]) ∧ Below w.heap.size w w' := by
  show Calls Tryd.prog 47 #[.agg #[.int .u32 a, .int .u32 b, .int .u32 c, .int .u32 d, .int .u32 e, .int .u32 f, .int .u32 g, .int .u32 h', .int .u64 n, .string r]] w _
  have h0 := hK.lt
  have hr64 : r.size < 64 := by simp [rightB] at hrt; exact hrt.2.1
  have hn60 : n < 1152921504606846976 := by simp [rightB] at hrt; exact hrt.1
  have HK := Lib.hid hK; clear hK
  obtain ⟨L, hL⟩ : ∃ L : Nat, L = 1 + (119 - r.size) % 64 := ⟨_, rfl⟩
  have hLe : 1 + (119 - (r.size : Int)) % 64 = (L : Int) := by omega
  have hL1 : 1 ≤ L := by omega
  have hL2 : L ≤ 64 := by omega
  have HLL := Lib.hid hL; clear hL
  have hmk : ∀ W : World, (Instr.makeSlice 102 (.int .i64 (L : Int)) (.int .i64 128)).run Tryd.prog W = .ok (.slice (some ⟨W.heap.size, 0, none⟩) L 128) (W.alloc (.cells (u8s (zeros 128)).toArray 5)) := by
    intro W
    have hi : (Tryd.prog.info? 5).map (fun i => (i.zero, i.size, i.bytes)) = some (some (.int .u8 0), 1, 1) := by kernel_rfl
    obtain ⟨i0, hi0, hz⟩ := Option.map_eq_some_iff.1 hi
    simp only [Prod.mk.injEq] at hz
    obtain ⟨hz0, hz1, hz2⟩ := hz
    have := run_make (P := Tryd.prog) W 102 5 i0 (.int .u8 0) Tryd.underlying102 hi0 hz0 .i64 .i64 (L : Int) 128 (by omega) (by omega) (by rw [hz2]; decide) (by decide)
    rw [hz1] at this
    rw [← madeCells_u8]
    exact this
  go_enter Tryd.func47, Tryd.ntmps47
  go_wp2_with fail
  go_at_call 68
  refine (right_eight a b c d e f g h' n r _ hr hn0 hn).mono ?_
  rintro e' w1 ⟨rfl, hb⟩
  have hbx : IsBlk w1 w.heap.size (u32s [a, b, c, d, e, f, g, h'] ++ #[.int .u64 n, .string r]) 89 := (IsBlk.new w _ _).ext hb
  have hbw := below_at hb
  clear hb
  have hlt1 : w.heap.size < w1.heap.size := hbx.lt
  have p9 : w1.cell? ⟨w.heap.size, 9, none⟩ = some (.string r) := hbx.cell rfl
  have HB := Lib.hid hbx; clear hbx
  have HW := Lib.hid hbw; clear hbw
  go_upto_region 4 with (fail)
  obtain ⟨w2, hw2⟩ : ∃ w2, w2 = w1.alloc (.cells (u8s (zeros 128)).toArray 5) := ⟨_, rfl⟩
  rw [← hw2]
  have hG : IsBlk w2 w1.heap.size (u8s (zeros 128)).toArray 5 := by rw [hw2]; exact IsBlk.new _ _ _
  have hbx2 : IsBlk w2 w.heap.size (u32s [a, b, c, d, e, f, g, h'] ++ #[.int .u64 n, .string r]) 89 := by rw [hw2]; exact HB.out.alloc _
  have hbw2 : Below w.heap.size w w2 := by rw [hw2]; exact HW.out.alloc (by omega) _
  clear hw2
  have c0 : w2.cell? ⟨w1.heap.size, 0, none⟩ = some (.int .u8 0) := hG.cell (by simp [u8s, zeros])
  have c1 : w2.frozen? ⟨w1.heap.size, 0, none⟩ = false := hG.frozen 0
  have HG := Lib.hid hG; clear hG
  have HB2 := Lib.hid hbx2; clear hbx2 HB
  have HW2 := Lib.hid hbw2; clear hbw2 HW
  obtain ⟨N, hN⟩ : ∃ N : Nat, N = 8 * n.toNat := ⟨_, rfl⟩
  have hNe : 8 * n = (N : Int) := by omega
  have HN := Lib.hid hN; clear hN
  go_wp2
  have hown : (w2.setCell ⟨w1.heap.size, 0, none⟩ (.int .u8 128)).ownsRow (w.heap.size + 1) 5 1 (.slice (some ⟨w1.heap.size, 0, none⟩) L 128) L (u8s (128 :: zeros (L - 1))) := by
    refine own_of_blk (HG.out.set 0 (.int .u8 128)) hlt1 (by omega) (by simp [maxLen]) (by simp [u8s, zeros]) ?_
    exact zeros_take 128 L hL1 (by omega)
  have HO := Lib.hid hown; clear hown
  go_loopw [4, 5] (fun v i wr => ∃ k : Nat, k ≤ 8 ∧ i = .int .i64 (56 - 8 * (k : Int)) ∧ wr.ownsRow (w.heap.size + 1) 5 1 v (L + k) (u8s (128 :: zeros (L - 1) ++ (bytes8 N).take k)) ∧ Below w.heap.size w wr ∧ IsBlk wr w.heap.size (u32s [a, b, c, d, e, f, g, h'] ++ #[.int .u64 n, .string r]) 89) (fun _ i _ => (intOf i + 8).toNat)
  case atStart =>
    exact ⟨0, by omega, rfl, by simpa using HO.out, HW2.out.setCell (by simp; omega) _, HB2.out.set_other (by simp; omega) _⟩
  case round =>
  obtain ⟨k, hk, rfl, hown, hbw, hbx⟩ := hrel
  by_cases hlt : k < 8
  · have p8 : wr.cell? ⟨w.heap.size, 8, none⟩ = some (.int .u64 n) := hbx.cell rfl
    have hwr := hbx.lt
    have hlen : (u8s (128 :: zeros (L - 1) ++ (bytes8 N).take k)).length = L + k := by simp [u8s, zeros, bytes8_length]; omega
    rw [← hlen] at hown
    have HO1 := Lib.hid hown; clear hown
    have HL1 := Lib.hid hlen; clear hlen
    have HW3 := Lib.hid hbw; clear hbw
    have HB3 := Lib.hid hbx; clear hbx
    go_wp2_with (at_builtin; refine push_one (w.heap.size + 1) rfl _ _ 102 5 (.int .u8 0) 1 rfl Tryd.underlying102 (by kernel_rfl) rfl (by decide) _ _ HO1.out _ rfl rfl rfl (by omega) (by rw [HL1.out]; omega) ?_; intro v1 w3 hown3 hg3)
    have hBv : ∀ j, Value.ownBlock _ = some j → w.heap.size + 1 ≤ j := fun j hj => (HO1.out.lt j hj).1
    go_roundw
    case rel =>
      rw [HL1.out, pad_step _ _ _ hlt] at hown3
      refine ⟨k + 1, by omega, ?_, hown3, HW3.out.grown hg3 (by omega) (fun j hj => by have := hBv j hj; omega), blk_grown HB3.out hg3 (fun e => by have := hBv _ e; omega)⟩
      go_num
    case measure => simp [intOf]; omega
  · rw [show (56 - 8 * (k : Int)) = -8 by omega]
    obtain rfl : k = 8 := by omega
    have hr' : n.toNat % 64 = r.size := by
      simp [rightB] at hrt
      omega
    have hpad : 128 :: zeros (L - 1) ++ (bytes8 N).take 8 = pad n.toNat := by
      have e1 : (bytes8 N).take 8 = bytes8 N := List.take_of_length_le (by rw [bytes8_length]; omega)
      have e2 : 8 * n.toNat % 18446744073709551616 = N := by have := HN.out; omega
      have e3 : (119 - n.toNat % 64) % 64 = L - 1 := by have := HLL.out; omega
      rw [e1, pad, e2, e3]
      rfl
    rw [hpad] at hown
    have hpl : (pad n.toNat).length = L + 8 := by rw [← hpad]; simp [zeros, bytes8_length]; omega
    have hcv := run_string_own (P := Tryd.prog) (w := wr) 102 5 9 Tryd.underlying102 Tryd.underlying5 Tryd.underlying9 hown
    have p0 : wr.cell? ⟨w.heap.size, 0, none⟩ = some (.int .u32 a) := hbx.cell rfl
    have p1 : wr.cell? ⟨w.heap.size, 1, none⟩ = some (.int .u32 b) := hbx.cell rfl
    have p2 : wr.cell? ⟨w.heap.size, 2, none⟩ = some (.int .u32 c) := hbx.cell rfl
    have p3 : wr.cell? ⟨w.heap.size, 3, none⟩ = some (.int .u32 d) := hbx.cell rfl
    have p4 : wr.cell? ⟨w.heap.size, 4, none⟩ = some (.int .u32 e) := hbx.cell rfl
    have p5 : wr.cell? ⟨w.heap.size, 5, none⟩ = some (.int .u32 f) := hbx.cell rfl
    have p6 : wr.cell? ⟨w.heap.size, 6, none⟩ = some (.int .u32 g) := hbx.cell rfl
    have p7 : wr.cell? ⟨w.heap.size, 7, none⟩ = some (.int .u32 h') := hbx.cell rfl
    have p8 : wr.cell? ⟨w.heap.size, 8, none⟩ = some (.int .u64 n) := hbx.cell rfl
    have p9' : wr.cell? ⟨w.heap.size, 9, none⟩ = some (.string r) := hbx.cell rfl
    have hwr := hbx.lt
    have HX := Lib.hid hbx; clear hbx
    have HWX := Lib.hid hbw; clear hbw
    have HP := Lib.hid hpl; clear hpl hpad hown HG HB2 HW2 HO c0 c1 p9 HN HLL
    obtain ⟨hs1, hhs⟩ : ∃ hs1, hs1 = (more [a, b, c, d, e, f, g, h'] (r.data.toList ++ (bs (pad n.toNat)).data.toList)).1 := ⟨_, rfl⟩
    have hl8 : hs1.length = 8 := by rw [hhs]; exact more_length _ rfl _
    obtain ⟨a1, b1, c1, d1, e1, f1, g1, h1, hx⟩ := of_eight hl8
    go_wp2_with fail
    go_at_call 48
    refine (more_any [a, b, c, d, e, f, g, h'] rfl n r _ _ (HK.out.below HWX.out h0) (by rw [bs_size, HP.out]; omega) hn0 hn).mono ?_
    rintro e' w3 ⟨he, hb3⟩
    obtain ⟨n1, hn1⟩ : ∃ n1 : Int, n1 = (n + ((bs (pad n.toNat)).size : Int)) % 18446744073709551616 := ⟨_, rfl⟩
    obtain ⟨r1, hr1⟩ : ∃ r1 : ByteArray, r1 = bs (more [a, b, c, d, e, f, g, h'] (r.data.toList ++ (bs (pad n.toNat)).data.toList)).2 := ⟨_, rfl⟩
    rw [← hhs, ← hn1, ← hr1, hx] at he
    have he2 : e' = .returned (.agg #[.int .u32 a1, .int .u32 b1, .int .u32 c1, .int .u32 d1, .int .u32 e1, .int .u32 f1, .int .u32 g1, .int .u32 h1, .int .u64 n1, .string r1]) := he
    subst he2
    clear he hr1 hn1 hl8
    have hbx3 := HX.out.ext hb3
    have hbw3 := below_ext HWX.out hb3
    have hsz3 := hb3.size
    have HHS := Lib.hid (hhs.symm.trans hx); clear hhs hx hs1
    clear p0 p1 p2 p3 p4 p5 p6 p7 p8 p9' hb3 hcv
    have q0 : w3.cell? ⟨w.heap.size, 0, none⟩ = some (.int .u32 a) := hbx3.cell rfl
    have q1 : w3.cell? ⟨w.heap.size, 1, none⟩ = some (.int .u32 b) := hbx3.cell rfl
    have q2 : w3.cell? ⟨w.heap.size, 2, none⟩ = some (.int .u32 c) := hbx3.cell rfl
    have q3 : w3.cell? ⟨w.heap.size, 3, none⟩ = some (.int .u32 d) := hbx3.cell rfl
    have q4 : w3.cell? ⟨w.heap.size, 4, none⟩ = some (.int .u32 e) := hbx3.cell rfl
    have q5 : w3.cell? ⟨w.heap.size, 5, none⟩ = some (.int .u32 f) := hbx3.cell rfl
    have q6 : w3.cell? ⟨w.heap.size, 6, none⟩ = some (.int .u32 g) := hbx3.cell rfl
    have q7 : w3.cell? ⟨w.heap.size, 7, none⟩ = some (.int .u32 h') := hbx3.cell rfl
    have q8 : w3.cell? ⟨w.heap.size, 8, none⟩ = some (.int .u64 n) := hbx3.cell rfl
    have q9 : w3.cell? ⟨w.heap.size, 9, none⟩ = some (.string r) := hbx3.cell rfl
    have qf : ∀ j, w3.frozen? ⟨w.heap.size, j, none⟩ = false := fun j => hbx3.frozen j
    have hlt3 := hbx3.lt
    have HX3 := Lib.hid hbx3; clear hbx3 HX
    have HW3 := Lib.hid hbw3; clear hbw3 HWX
    go_upto_region 10 with (fail)
    generalize hW4 : World.setCell _ _ _ = W4
    have hI : IsBlk W4 w.heap.size #[.int .u32 a1, .int .u32 b1, .int .u32 c1, .int .u32 d1, .int .u32 e1, .int .u32 f1, .int .u32 g1, .int .u32 h1, .int .u64 n1, .string r1] 89 := by
      rw [← hW4]
      have HX3' : IsBlk w3 w.heap.size #[.int .u32 a, .int .u32 b, .int .u32 c, .int .u32 d, .int .u32 e, .int .u32 f, .int .u32 g, .int .u32 h', .int .u64 n, .string r] 89 := HX3.out
      have := ((((((((((HX3').set 0 (.int .u32 a1)).set 1 (.int .u32 b1)).set 2 (.int .u32 c1)).set 3 (.int .u32 d1)).set 4 (.int .u32 e1)).set 5 (.int .u32 f1)).set 6 (.int .u32 g1)).set 7 (.int .u32 h1)).set 8 (.int .u64 n1)).set 9 (.string r1)
      simpa using this
    have hbW : Below w.heap.size w W4 := by
      rw [← hW4]
      iterate 10 refine below_set ?_ (Nat.le_refl _)
      exact HW3.out
    clear hW4 HW3 HX3 q0 q1 q2 q3 q4 q5 q6 q7 q8 q9 qf hlt3 hsz3
    have hltW := hI.lt
    have HI := Lib.hid hI; clear hI
    have HBW := Lib.hid hbW; clear hbW
    go_wp2
    go_loopw [37] (fun i wr => ∃ k : Nat, k ≤ 32 ∧ i = .int .i64 k ∧ Below w.heap.size w wr ∧ IsBlk wr w.heap.size #[.int .u32 a1, .int .u32 b1, .int .u32 c1, .int .u32 d1, .int .u32 e1, .int .u32 f1, .int .u32 g1, .int .u32 h1, .int .u64 n1, .string r1] 89 ∧ IsBlk wr W4.heap.size (u8s ((outB [a1, b1, c1, d1, e1, f1, g1, h1]).take k ++ zeros (32 - k))).toArray 103) (fun i _ => 32 - (intOf i).toNat)
    case atStart =>
      exact ⟨0, by omega, rfl, HBW.out.alloc (by omega) _, HI.out.alloc _, IsBlk.new _ _ _⟩
    case round =>
    obtain ⟨k, hk, rfl, hbw, hbx, hbo⟩ := hrel
    by_cases hlt : k < 32
    · have hk4 : k / 4 < 8 := by omega
      have s0 : wr.cell? ⟨w.heap.size, k / 4, none⟩ = some (.int .u32 ([a1, b1, c1, d1, e1, f1, g1, h1][k / 4]?.getD 0)) :=
        (show IsBlk wr w.heap.size (u32s [a1, b1, c1, d1, e1, f1, g1, h1] ++ #[.int .u64 n1, .string r1]) 89 from hbx).cell (u32s_app_get hk4)
      obtain ⟨xk, hxk⟩ : ∃ xk, xk = [a1, b1, c1, d1, e1, f1, g1, h1][k / 4]?.getD 0 := ⟨_, rfl⟩
      rw [← hxk] at s0
      obtain ⟨yk, s1⟩ : ∃ yk, wr.cell? ⟨W4.heap.size, k, none⟩ = some yk := ⟨_, hbo.cell (Array.getElem?_eq_getElem (by simp [u8s, zeros, outB_length]; omega))⟩
      have s2 : wr.frozen? ⟨W4.heap.size, k, none⟩ = false := hbo.frozen k
      have HXK := Lib.hid hxk; clear hxk
      have H1 := Lib.hid hbw; clear hbw
      have H2 := Lib.hid hbx; clear hbx
      have H3 := Lib.hid hbo; clear hbo
      go_wp2
      go_roundw
      case rel =>
        refine ⟨k + 1, by omega, by go_num, below_set H1.out (by omega), H2.out.set_other (by simp; omega) _, ?_⟩
        have := H3.out.set k (.int .u8 (xk / 2 ^ (24 - 8 * (k % 4)) % 256))
        rw [HXK.out, outB_step a1 b1 c1 d1 e1 f1 g1 h1 k hlt] at this
        rw [HXK.out]
        exact this
      case measure => simp [intOf]; omega
    · rw [show (k : Int) = 32 by omega]
      obtain rfl : k = 32 := by omega
      have hob : IsBlk wr W4.heap.size (u8s (outB [a1, b1, c1, d1, e1, f1, g1, h1])).toArray 103 := by
        have : (outB [a1, b1, c1, d1, e1, f1, g1, h1]).take 32 ++ zeros (32 - 32) = outB [a1, b1, c1, d1, e1, f1, g1, h1] := by
          unfold zeros
          rw [Nat.sub_self, List.replicate_zero, List.append_nil, List.take_of_length_le (by rw [outB_length]; omega)]
        rw [this] at hbo
        exact hbo
      have hcv := run_string_blk (P := Tryd.prog) (w := wr) (n := 32) (cap := 32) 102 5 9 Tryd.underlying102 Tryd.underlying5 Tryd.underlying9 (outB_length a1 b1 c1 d1 e1 f1 g1 h1) hob
      have H1 := Lib.hid hbw; clear hbw hbx hbo hob hlt hk
      go_wp2
      go_ret2
      refine ⟨?_, H1.out⟩
      have hfin : outB [a1, b1, c1, d1, e1, f1, g1, h1] = endOf [a, b, c, d, e, f, g, h'] r.data.toList n.toNat := by
        rw [endOf, ← HHS.out]
        rfl
      rw [← hfin]
      rfl
set_option maxHeartbeats 1000000 in
theorem end_not (a b c d e f g h' : Int) (n : Int) (r : ByteArray) (w : World) (hr : r.size ≤ 281474976710656) (hn0 : 0 ≤ n) (hn : n < 18446744073709551616) (hrt : rightB n r.size = false) :
    Calls Tryd.prog 47 #[shaV [a, b, c, d, e, f, g, h'] n r] w fun e' w' =>
      e' = .returned (.tuple #[.string (bs []), .int .i64 6]) ∧ Below w.heap.size w w' := by
  show Calls Tryd.prog 47 #[.agg #[.int .u32 a, .int .u32 b, .int .u32 c, .int .u32 d, .int .u32 e, .int .u32 f, .int .u32 g, .int .u32 h', .int .u64 n, .string r]] w _
  go_enter Tryd.func47, Tryd.ntmps47
  go_wp2_with fail
  go_at_call 68
  refine (right_eight a b c d e f g h' n r _ hr hn0 hn).mono ?_
  rintro e' w1 ⟨rfl, hb⟩
  have hbw := below_at hb
  clear hb
  have HW := Lib.hid hbw; clear hbw
  go_wp2_with fail
  go_ret2
  exact ⟨rfl, HW.out⟩
/-- What End answers. -/
def endP (hs : List Int) (n : Int) (r : ByteArray) : List UInt8 × Int := if rightB n r.size then (endOf hs r.data.toList n.toNat, 0) else ([], 6)
theorem end_any (hs : List Int) (hl : hs.length = 8) (n : Int) (r : ByteArray) (w : World) (hK : Ks w) (hr : r.size ≤ 281474976710656) (hn0 : 0 ≤ n) (hn : n < 18446744073709551616) :
    Calls Tryd.prog 47 #[shaV hs n r] w fun e' w' => e' = .returned (.tuple #[.string (bs (endP hs n r).1), .int .i64 (endP hs n r).2]) ∧ Below w.heap.size w w' := by
  obtain ⟨a, b, c, d, e, f, g, h', rfl⟩ := of_eight hl
  unfold endP
  cases hrt : rightB n r.size with
  | true => exact end_eight a b c d e f g h' n r w hK hr hn0 hn hrt
  | false => exact end_not a b c d e f g h' n r w hr hn0 hn hrt
end Go.Proofs.YtfnlehnhcekpkaaDoor
