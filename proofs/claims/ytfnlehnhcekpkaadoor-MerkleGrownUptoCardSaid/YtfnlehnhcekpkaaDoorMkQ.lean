/- math/bits.OnesCount and TrailingZeros where merkle calls them. Conditions: numbers up to 1024; the table reads as the library lays it. -/
import Derived.Test.YtfnlehnhcekpkaaDoorMkH
import Derived.Shelf.Spec.TrailingZeros
set_option linter.unusedVariables false
set_option linter.unusedSimpArgs false
namespace Go.Proofs.YtfnlehnhcekpkaaDoor
open Go Go.RowKit Go.BigFrame
set_option maxRecDepth 100000

/-- How many ones there are among the lowest twelve binary digits. -/
def onesF : Nat → Nat → Nat
  | 0, _ => 0
  | f + 1, n => n % 2 + onesF f (n / 2)
def onesN (n : Nat) : Nat := onesF 12 n
def m0 : Nat := 6148914691236517205
def m1 : Nat := 3689348814741910323
def m2 : Nat := 1085102592571150095
def pc1 (c : Nat) : Nat := (c / 2 &&& m0) + (c &&& m0)
def pc2 (x : Nat) : Nat := (x / 4 &&& m1) + (x &&& m1)
def pc3 (x : Nat) : Nat := (x / 16 + x) &&& m2
def pc4 (x : Nat) : Nat := x + x / 256
def pc5 (x : Nat) : Nat := x + x / 65536
def pc6 (x : Nat) : Nat := x + x / 4294967296
def pc (c : Nat) : Nat := pc6 (pc5 (pc4 (pc3 (pc2 (pc1 c))))) &&& 127
theorem pc_ones : ∀ c, c < 1025 → pc c = onesN c := by decide +kernel
theorem bits_and_i64_nat (a b : Nat) (ha : a < 9223372036854775808) (hb : b < 9223372036854775808) : bits .and .i64 (a : Int) (b : Int) = ((a &&& b : Nat) : Int) := by
  have hx : a &&& b ≤ a := Nat.and_le_left
  have h1 : (BitVec.ofInt 64 (a : Int)).toNat = a := by
    rw [BitVec.ofInt_natCast, BitVec.toNat_ofNat]; exact Nat.mod_eq_of_lt (by omega)
  have h2 : (BitVec.ofInt 64 (b : Int)).toNat = b := by
    rw [BitVec.ofInt_natCast, BitVec.toNat_ofNat]; exact Nat.mod_eq_of_lt (by omega)
  show IntKind.i64.wrap ((BitVec.ofInt 64 (a : Int) &&& BitVec.ofInt 64 (b : Int)).toNat : Int) = _
  rw [BitVec.toNat_and, h1, h2]
  generalize a &&& b = r at hx ⊢
  clear h1 h2
  rw [IntKind.wrap_i64]
  omega
set_option maxHeartbeats 4000000 in
theorem ones64_any (c : Nat) (hc : c ≤ 1024) (w : World) : Calls Tryd.prog 71 #[.int .u64 (c : Int)] w fun e' w' => e' = .returned (.int .i64 (onesN c : Int)) ∧ w = w' := by
  have hr : onesN c = pc c := (pc_ones c (by omega)).symm
  rw [hr]
  unfold pc pc6 pc5 pc4 pc3 pc2 pc1
  obtain ⟨a1, ha1⟩ : ∃ a, a = c / 2 &&& m0 := ⟨_, rfl⟩
  obtain ⟨b1, hb1⟩ : ∃ a, a = c &&& m0 := ⟨_, rfl⟩
  have h1 : a1 ≤ c / 2 := by rw [ha1]; exact Nat.and_le_left
  have h2 : b1 ≤ c := by rw [hb1]; exact Nat.and_le_left
  rw [← ha1, ← hb1]
  obtain ⟨x1, hx1⟩ : ∃ a, a = a1 + b1 := ⟨_, rfl⟩
  rw [← hx1]
  obtain ⟨a2, ha2⟩ : ∃ a, a = x1 / 4 &&& m1 := ⟨_, rfl⟩
  obtain ⟨b2, hb2⟩ : ∃ a, a = x1 &&& m1 := ⟨_, rfl⟩
  have h3 : a2 ≤ x1 / 4 := by rw [ha2]; exact Nat.and_le_left
  have h4 : b2 ≤ x1 := by rw [hb2]; exact Nat.and_le_left
  rw [← ha2, ← hb2]
  obtain ⟨x2, hx2⟩ : ∃ a, a = a2 + b2 := ⟨_, rfl⟩
  rw [← hx2]
  obtain ⟨y3, hy3⟩ : ∃ a, a = x2 / 16 + x2 := ⟨_, rfl⟩
  rw [← hy3]
  obtain ⟨x3, hx3⟩ : ∃ a, a = y3 &&& m2 := ⟨_, rfl⟩
  have h5 : x3 ≤ y3 := by rw [hx3]; exact Nat.and_le_left
  rw [← hx3]
  obtain ⟨x4, hx4⟩ : ∃ a, a = x3 + x3 / 256 := ⟨_, rfl⟩
  rw [← hx4]
  obtain ⟨x5, hx5⟩ : ∃ a, a = x4 + x4 / 65536 := ⟨_, rfl⟩
  rw [← hx5]
  obtain ⟨x6, hx6⟩ : ∃ a, a = x5 + x5 / 4294967296 := ⟨_, rfl⟩
  rw [← hx6]
  obtain ⟨x7, hx7⟩ : ∃ a, a = x6 &&& 127 := ⟨_, rfl⟩
  rw [← hx7]
  have hw : ∀ (i : Int) (n : Nat), i = (n : Int) → n < 18446744073709551616 → IntKind.u64.wrap i = (n : Int) := fun i n h hn => by
    rw [h, IntKind.wrap_u64]
    omega
  have hand : ∀ (i : Int) (a b r : Nat), i = (a : Int) → r = a &&& b → a < 18446744073709551616 → b < 18446744073709551616 → bits BinOp.and IntKind.u64 i (b : Int) = (r : Int) := fun i a b r h hr ha hb => by
    rw [h, hr]
    exact bits_and_u64_nat a b ha hb
  have e1 : bits BinOp.and IntKind.u64 ((c : Int) / 2) 6148914691236517205 = (a1 : Int) := hand _ (c / 2) m0 a1 (by omega) ha1 (by omega) (by decide)
  have e2 : bits BinOp.and IntKind.u64 (c : Int) 6148914691236517205 = (b1 : Int) := hand _ c m0 b1 rfl hb1 (by omega) (by decide)
  have w1 : IntKind.u64.wrap ((a1 : Int) + (b1 : Int)) = (x1 : Int) := hw _ _ (by omega) (by omega)
  have e3 : bits BinOp.and IntKind.u64 ((x1 : Int) / 4) 3689348814741910323 = (a2 : Int) := hand _ (x1 / 4) m1 a2 (by omega) ha2 (by omega) (by decide)
  have e4 : bits BinOp.and IntKind.u64 (x1 : Int) 3689348814741910323 = (b2 : Int) := hand _ x1 m1 b2 rfl hb2 (by omega) (by decide)
  have w2 : IntKind.u64.wrap ((a2 : Int) + (b2 : Int)) = (x2 : Int) := hw _ _ (by omega) (by omega)
  have w3 : IntKind.u64.wrap ((x2 : Int) / 16 + (x2 : Int)) = (y3 : Int) := hw _ _ (by omega) (by omega)
  have e5 : bits BinOp.and IntKind.u64 (y3 : Int) 1085102592571150095 = (x3 : Int) := hand _ y3 m2 x3 rfl hx3 (by omega) (by decide)
  have w4 : IntKind.u64.wrap ((x3 : Int) + (x3 : Int) / 256) = (x4 : Int) := hw _ _ (by omega) (by omega)
  have w5 : IntKind.u64.wrap ((x4 : Int) + (x4 : Int) / 65536) = (x5 : Int) := hw _ _ (by omega) (by omega)
  have w6 : IntKind.u64.wrap ((x5 : Int) + (x5 : Int) / 4294967296) = (x6 : Int) := hw _ _ (by omega) (by omega)
  have hb : x6 ≤ 1099511627776 := by omega
  have HX7 := Lib.hid hx7
  clear ha1 hb1 ha2 hb2 hx3 h1 h2 h3 h4 h5 hr hx1 hx2 hy3 hx4 hx5 hx6 hx7 hw hand
  go_enter Tryd.func71, Tryd.ntmps71
  go_wp2
  go_ret
  refine ⟨?_, rfl⟩
  rw [HX7.out]
  exact congrArg (fun z => Ending.returned (.int .i64 z)) (bits_and_i64_nat x6 127 (by omega) (by decide))
theorem ones_any (c : Nat) (hc : c ≤ 1024) (w : World) : Calls Tryd.prog 52 #[.int .u64 (c : Int)] w fun e' w' => e' = .returned (.int .i64 (onesN c : Int)) ∧ w = w' := by
  have HO := Lib.hid (ones64_any c hc w)
  generalize onesN c = r at HO ⊢
  go_enter Tryd.func52, Tryd.ntmps52
  go_wp2_with fail
  go_at_call 71
  refine HO.out.mono ?_
  rintro e' w1 ⟨rfl, rfl⟩
  go_wp2
  go_ret
  exact ⟨rfl, rfl⟩
/-- How many of the lowest digits are ones. -/
def tzF : Nat → Nat → Nat
  | 0, _ => 0
  | f + 1, n => if n % 2 = 1 then 1 + tzF f (n / 2) else 0
def tzN (n : Nat) : Nat := tzF 64 n
theorem ctz_tzF : ∀ (f c : Nat), c < 2 ^ f → Lib.ctzFrom f (2 ^ f - 1 - c) = tzF f c
  | 0, c, h => rfl
  | f + 1, c, h => by
    rw [Nat.pow_succ] at h ⊢
    have h1 := Nat.one_le_two_pow (n := f)
    rw [Lib.ctzFrom, tzF]
    by_cases h2 : c % 2 = 1
    · rw [if_neg (by omega), if_pos h2, show (2 ^ f * 2 - 1 - c) / 2 = 2 ^ f - 1 - c / 2 by omega, ctz_tzF f (c / 2) (by omega)]
    · rw [if_pos (by omega), if_neg h2]
theorem tz_ones (c : Nat) (hc : c < 1025) : Lib.ctz 64 (18446744073709551615 - c) = tzN c := by
  have h := ctz_tzF 64 c (by omega)
  unfold Lib.ctz
  rw [if_neg (by omega)]
  exact h
def TzT (w : World) : Prop := ∀ j, j < Lib.deBruijn64tab.length → w.cell? ⟨1, j, none⟩ = some (.int .u8 (Lib.deBruijn64tab.getD j 0))
theorem tz64_core (x k idx : Nat) (w : World) (h0 : ((x : Int) == 0) = false)
    (key : IntKind.u64.wrap (bits BinOp.and IntKind.u64 (x : Int) (IntKind.u64.wrap (-(x : Int))) * 285870213051353865) / 288230376151711744 = (idx : Int))
    (hi : idx < 64) (hk : k < 64) (hcell : w.cell? ⟨1, idx, none⟩ = some (.int .u8 k)) : Calls Tryd.prog 54 #[.int .u64 (x : Int)] w fun e' w' => e' = .returned (.int .i64 (k : Int)) ∧ w = w' := by
  go_enter Tryd.func54, Tryd.ntmps54
  go_wp2_with (simp only [key])
  go_ret
  exact ⟨rfl, rfl⟩
theorem tz64_any (x : Nat) (hx : x < 18446744073709551616) (hx0 : x ≠ 0) (w : World) (hT : TzT w) : Calls Tryd.prog 54 #[.int .u64 (x : Int)] w fun e' w' => e' = .returned (.int .i64 (Lib.ctz 64 x : Int)) ∧ w = w' := by
  obtain ⟨hlow, hk⟩ := Lib.lowest_bit 64 x hx0 hx
  obtain ⟨hi, htab⟩ := Lib.deBruijn64_at _ hk
  have hcell := hT _ hi
  rw [htab] at hcell
  exact tz64_core x _ _ w (by rw [beq_eq_false_iff_ne]; omega) (tz64_key x _ hx hx0 hlow) hi hk hcell
theorem tz_any (c : Nat) (hc : c ≤ 1024) (w : World) (hT : TzT w) : Calls Tryd.prog 31 #[.int .u64 ((18446744073709551615 - c : Nat) : Int)] w fun e' w' => e' = .returned (.int .i64 (tzN c : Int)) ∧ w = w' := by
  have h := tz64_any (18446744073709551615 - c) (by omega) (by omega) w hT
  rw [tz_ones c (by omega)] at h
  have HO := Lib.hid h
  clear h hT
  generalize tzN c = r at HO ⊢
  generalize ((18446744073709551615 - c : Nat) : Int) = x at HO ⊢
  go_enter Tryd.func31, Tryd.ntmps31
  go_wp2_with fail
  go_at_call 54
  refine HO.out.mono ?_
  rintro e' w1 ⟨rfl, rfl⟩
  go_wp2
  go_ret
  exact ⟨rfl, rfl⟩
/-- Whether peaks are right. -/
def peaksB (c : Int) (tops : List (List UInt8)) : Bool := decide (0 ≤ c) && (decide (c ≤ 1024) && (decide (tops.length = onesN c.toNat) && dig32 tops))
set_option maxHeartbeats 4000000 in
theorem peaks_any (c : Int) (tops : List (List UInt8)) (S : Nat → Prop) (p : Option Addr) (cap : Nat) (w : World) (hs : HasS S w p tops) (hn : tops.length ≤ 1099511627776) (hts : ∀ s ∈ tops, s.length ≤ 1099511627776) :
    Calls Tryd.prog 29 #[.agg #[.int .i64 c, .slice p tops.length cap]] w fun e' w' => e' = .returned (.bool (peaksB c tops)) ∧ Below w.heap.size w w' := by
  have HD : Hid (∀ w', Below w.heap.size w w' → Calls Tryd.prog 44 #[.slice p tops.length cap] w' fun e' w'' => e' = .returned (.bool (dig32 tops)) ∧ w' = w'') := Lib.hid (fun w' hb => digests_any tops S p cap w' (hs.ext hb) hn hts)
  obtain ⟨G, hG⟩ : ∃ G, G = dig32 tops := ⟨_, rfl⟩
  obtain ⟨R, hR⟩ : ∃ R, R = peaksB c tops := ⟨_, rfl⟩
  rw [← hR]
  unfold peaksB at hR
  rw [← hG] at hR HD
  obtain ⟨n, hnl⟩ : ∃ n, n = tops.length := ⟨_, rfl⟩
  rw [← hnl] at hR HD hn ⊢
  have HR := Lib.hid hR
  clear hR hG hs hts hnl
  have hW : IsBlk (w.alloc (.cells #[.int .i64 c, .slice p n cap] 24)) w.heap.size #[.int .i64 c, .slice p n cap] 24 := IsBlk.new _ _ _
  have hbw : Below w.heap.size w (w.alloc (.cells #[.int .i64 c, .slice p n cap] 24)) := (Below.refl _ _).alloc (Nat.le_refl _) _
  by_cases h0 : 0 ≤ c
  case neg =>
    have d0 : decide (0 ≤ c) = false := decide_eq_false h0
    have HR2 : Hid (R = false) := Lib.hid (by rw [HR.out, d0]; rfl)
    clear HR
    go_enter Tryd.func29, Tryd.ntmps29
    go_upto_region 1 with (fail)
    generalize hW1 : World.alloc w _ = W1 at hW hbw
    clear hW1
    have hlt := hW.lt
    have x0 := hW.cell (i := 0) rfl
    have x1 := hW.cell (i := 1) rfl
    have HB := Lib.hid hbw
    clear hW hbw
    refine mixB_start [] (Cls W1) (by kernel_rfl) (Cls.of ((Below.refl _ _).drew)) (fun hCw => ?_)
    refine mixB_flt (by kernel_rfl) [0, 1, 2, 3, 4, 5, 6, 7, 8, 9, 10, 11, 12, 13, 14] 9 _ _ hCw (by kernel_rfl) ?_
    simp only [opsAt, List.map_cons, List.map_nil, List.toList_toArray, List.getD_cons_succ, List.getD_cons_zero]
    unfold Cls
    repeat (go_big_quiet_step (fail))
    refine wpQuiet_nil ?_
    (try rw [← Cls_def])
    refine mixB_ch (i := 15) (fuel := 8) (by kernel_rfl) (by kernel_rfl) ?_
    simp only [opsAt, List.map_cons, List.map_nil, List.toList_toArray, List.getD_cons_succ, List.getD_cons_zero]
    go_wp2_with (go_at_call 52; fail)
    refine ThenB.mk (hCw) (fun hCw => ?_)
    refine mixB_flt (by kernel_rfl) [16, 17, 18, 19, 20] 3 _ _ hCw (by kernel_rfl) ?_
    simp only [opsAt, List.map_cons, List.map_nil, List.toList_toArray, List.getD_cons_succ, List.getD_cons_zero]
    unfold Cls
    repeat (go_big_quiet_step (fail))
    refine wpQuiet_nil ?_
    (try rw [← Cls_def])
    refine mixB_ch (i := 21) (fuel := 2) (by kernel_rfl) (by kernel_rfl) ?_
    simp only [opsAt, List.map_cons, List.map_nil, List.toList_toArray, List.getD_cons_succ, List.getD_cons_zero]
    go_wp2_with (go_at_call 44; fail)
    refine ThenB.mk (hCw) (fun hCw => ?_)
    refine mixB_flt (by kernel_rfl) [22, 23] 0 _ _ hCw (by kernel_rfl) ?_
    simp only [opsAt, List.map_cons, List.map_nil, List.toList_toArray, List.getD_cons_succ, List.getD_cons_zero]
    unfold Cls
    repeat (go_big_quiet_step (fail))
    refine wpQuiet_nil ?_
    (try rw [← Cls_def])
    refine mixB_end [] (by kernel_rfl) ?_
    refine wpList_nil ?_
    refine Calm.normal ?_
    have HB2 := Lib.hid (HB.out.trans (hCw.below.mono HB.out.size))
    go_wp2
    go_ret
    exact ⟨by rw [HR2.out]; rfl, HB2.out⟩
  have d0 : decide (0 ≤ c) = true := decide_eq_true h0
  by_cases h1 : c ≤ 1024
  case neg =>
    have d1 : decide (c ≤ 1024) = false := decide_eq_false h1
    have HR2 : Hid (R = false) := Lib.hid (by rw [HR.out, d0, d1]; rfl)
    clear HR
    go_enter Tryd.func29, Tryd.ntmps29
    go_upto_region 1 with (fail)
    generalize hW1 : World.alloc w _ = W1 at hW hbw
    clear hW1
    have hlt := hW.lt
    have x0 := hW.cell (i := 0) rfl
    have x1 := hW.cell (i := 1) rfl
    have HB := Lib.hid hbw
    clear hW hbw
    refine mixB_start [] (Cls W1) (by kernel_rfl) (Cls.of ((Below.refl _ _).drew)) (fun hCw => ?_)
    refine mixB_flt (by kernel_rfl) [0, 1, 2, 3, 4, 5, 6, 7, 8, 9, 10, 11, 12, 13, 14] 9 _ _ hCw (by kernel_rfl) ?_
    simp only [opsAt, List.map_cons, List.map_nil, List.toList_toArray, List.getD_cons_succ, List.getD_cons_zero]
    unfold Cls
    repeat (go_big_quiet_step (fail))
    refine wpQuiet_nil ?_
    (try rw [← Cls_def])
    refine mixB_ch (i := 15) (fuel := 8) (by kernel_rfl) (by kernel_rfl) ?_
    simp only [opsAt, List.map_cons, List.map_nil, List.toList_toArray, List.getD_cons_succ, List.getD_cons_zero]
    go_wp2_with (go_at_call 52; fail)
    refine ThenB.mk (hCw) (fun hCw => ?_)
    refine mixB_flt (by kernel_rfl) [16, 17, 18, 19, 20] 3 _ _ hCw (by kernel_rfl) ?_
    simp only [opsAt, List.map_cons, List.map_nil, List.toList_toArray, List.getD_cons_succ, List.getD_cons_zero]
    unfold Cls
    repeat (go_big_quiet_step (fail))
    refine wpQuiet_nil ?_
    (try rw [← Cls_def])
    refine mixB_ch (i := 21) (fuel := 2) (by kernel_rfl) (by kernel_rfl) ?_
    simp only [opsAt, List.map_cons, List.map_nil, List.toList_toArray, List.getD_cons_succ, List.getD_cons_zero]
    go_wp2_with (go_at_call 44; fail)
    refine ThenB.mk (hCw) (fun hCw => ?_)
    refine mixB_flt (by kernel_rfl) [22, 23] 0 _ _ hCw (by kernel_rfl) ?_
    simp only [opsAt, List.map_cons, List.map_nil, List.toList_toArray, List.getD_cons_succ, List.getD_cons_zero]
    unfold Cls
    repeat (go_big_quiet_step (fail))
    refine wpQuiet_nil ?_
    (try rw [← Cls_def])
    refine mixB_end [] (by kernel_rfl) ?_
    refine wpList_nil ?_
    refine Calm.normal ?_
    have HB2 := Lib.hid (HB.out.trans (hCw.below.mono HB.out.size))
    go_wp2
    go_ret
    exact ⟨by rw [HR2.out]; rfl, HB2.out⟩
  obtain ⟨k, rfl⟩ : ∃ k : Nat, c = (k : Int) := ⟨c.toNat, by omega⟩
  have d1 : decide ((k : Int) ≤ 1024) = true := decide_eq_true h1
  have hk : k ≤ 1024 := by omega
  obtain ⟨on, hon⟩ : ∃ on, on = onesN k := ⟨_, rfl⟩
  have HR2 : Hid (R = (decide (n = on) && G)) := Lib.hid (by rw [HR.out, d0, d1, hon]; rfl)
  have HON := Lib.hid hon
  clear HR hon d0 d1 h0 h1
  have hkI : (k : Int) ≤ 1024 := by omega
  by_cases h2 : n = on
  case neg =>
    have d2 : ((n : Int) == (on : Int)) = false := by rw [beq_eq_false_iff_ne]; omega
    have HR3 := Lib.hid HR2.out
    clear HR2
    have HR2 : Hid (R = false) := Lib.hid (by rw [HR3.out, decide_eq_false h2]; rfl)
    clear h2 HR3
    go_enter Tryd.func29, Tryd.ntmps29
    go_upto_region 1 with (fail)
    generalize hW1 : World.alloc w _ = W1 at hW hbw
    clear hW1
    have hlt := hW.lt
    have x0 := hW.cell (i := 0) rfl
    have x1 := hW.cell (i := 1) rfl
    have HB := Lib.hid hbw
    clear hW hbw
    refine mixB_start [] (Cls W1) (by kernel_rfl) (Cls.of ((Below.refl _ _).drew)) (fun hCw => ?_)
    refine mixB_flt (by kernel_rfl) [0, 1, 2, 3, 4, 5, 6, 7, 8, 9, 10, 11, 12, 13, 14] 9 _ _ hCw (by kernel_rfl) ?_
    simp only [opsAt, List.map_cons, List.map_nil, List.toList_toArray, List.getD_cons_succ, List.getD_cons_zero]
    unfold Cls
    repeat (go_big_quiet_step (fail))
    refine wpQuiet_nil ?_
    (try rw [← Cls_def])
    refine mixB_ch (i := 15) (fuel := 8) (by kernel_rfl) (by kernel_rfl) ?_
    simp only [opsAt, List.map_cons, List.map_nil, List.toList_toArray, List.getD_cons_succ, List.getD_cons_zero]
    go_wp2_with (go_at_call 52; go_at_call 52; refine (ones_any k hk _).mono ?_; rintro e' w2 ⟨he, rfl⟩; rw [← HON.out] at he; subst he)
    refine ThenB.mk (hCw) (fun hCw => ?_)
    refine mixB_flt (by kernel_rfl) [16, 17, 18, 19, 20] 3 _ _ hCw (by kernel_rfl) ?_
    simp only [opsAt, List.map_cons, List.map_nil, List.toList_toArray, List.getD_cons_succ, List.getD_cons_zero]
    unfold Cls
    repeat (go_big_quiet_step (fail))
    refine wpQuiet_nil ?_
    (try rw [← Cls_def])
    refine mixB_ch (i := 21) (fuel := 2) (by kernel_rfl) (by kernel_rfl) ?_
    simp only [opsAt, List.map_cons, List.map_nil, List.toList_toArray, List.getD_cons_succ, List.getD_cons_zero]
    go_wp2_with (go_at_call 44; fail)
    refine ThenB.mk (hCw) (fun hCw => ?_)
    refine mixB_flt (by kernel_rfl) [22, 23] 0 _ _ hCw (by kernel_rfl) ?_
    simp only [opsAt, List.map_cons, List.map_nil, List.toList_toArray, List.getD_cons_succ, List.getD_cons_zero]
    unfold Cls
    repeat (go_big_quiet_step (fail))
    refine wpQuiet_nil ?_
    (try rw [← Cls_def])
    refine mixB_end [] (by kernel_rfl) ?_
    refine wpList_nil ?_
    refine Calm.normal ?_
    have HB2 := Lib.hid (HB.out.trans (hCw.below.mono HB.out.size))
    go_wp2
    go_ret
    exact ⟨by rw [HR2.out]; rfl, HB2.out⟩
  have HR3 := Lib.hid HR2.out
  clear HR2
  have HR2 : Hid (R = G) := Lib.hid (by rw [HR3.out, decide_eq_true h2]; rfl)
  subst h2
  clear HR3
  go_enter Tryd.func29, Tryd.ntmps29
  go_upto_region 1 with (fail)
  generalize hW1 : World.alloc w _ = W1 at hW hbw
  clear hW1
  have hlt := hW.lt
  have x0 := hW.cell (i := 0) rfl
  have x1 := hW.cell (i := 1) rfl
  have HB := Lib.hid hbw
  clear hW hbw
  refine mixB_start [] (Cls W1) (by kernel_rfl) (Cls.of ((Below.refl _ _).drew)) (fun hCw => ?_)
  refine mixB_flt (by kernel_rfl) [0, 1, 2, 3, 4, 5, 6, 7, 8, 9, 10, 11, 12, 13, 14] 9 _ _ hCw (by kernel_rfl) ?_
  simp only [opsAt, List.map_cons, List.map_nil, List.toList_toArray, List.getD_cons_succ, List.getD_cons_zero]
  unfold Cls
  repeat (go_big_quiet_step (fail))
  refine wpQuiet_nil ?_
  (try rw [← Cls_def])
  refine mixB_ch (i := 15) (fuel := 8) (by kernel_rfl) (by kernel_rfl) ?_
  simp only [opsAt, List.map_cons, List.map_nil, List.toList_toArray, List.getD_cons_succ, List.getD_cons_zero]
  go_wp2_with (go_at_call 52; go_at_call 52; refine (ones_any k hk _).mono ?_; rintro e' w2 ⟨he, rfl⟩; rw [← HON.out] at he; subst he)
  refine ThenB.mk (hCw) (fun hCw => ?_)
  refine mixB_flt (by kernel_rfl) [16, 17, 18, 19, 20] 3 _ _ hCw (by kernel_rfl) ?_
  simp only [opsAt, List.map_cons, List.map_nil, List.toList_toArray, List.getD_cons_succ, List.getD_cons_zero]
  unfold Cls
  repeat (go_big_quiet_step (fail))
  refine wpQuiet_nil ?_
  (try rw [← Cls_def])
  refine mixB_ch (i := 21) (fuel := 2) (by kernel_rfl) (by kernel_rfl) ?_
  simp only [opsAt, List.map_cons, List.map_nil, List.toList_toArray, List.getD_cons_succ, List.getD_cons_zero]
  go_wp2_with (go_at_call 44; go_at_call 44; refine (HD.out _ (HB.out.trans (hCw.below.mono HB.out.size))).mono ?_; rintro e' w3 ⟨rfl, rfl⟩)
  refine ThenB.mk (hCw) (fun hCw => ?_)
  refine mixB_flt (by kernel_rfl) [22, 23] 0 _ _ hCw (by kernel_rfl) ?_
  simp only [opsAt, List.map_cons, List.map_nil, List.toList_toArray, List.getD_cons_succ, List.getD_cons_zero]
  unfold Cls
  repeat (go_big_quiet_step (fail))
  refine wpQuiet_nil ?_
  (try rw [← Cls_def])
  refine mixB_end [] (by kernel_rfl) ?_
  refine wpList_nil ?_
  refine Calm.normal ?_
  have HB2 := Lib.hid (HB.out.trans (hCw.below.mono HB.out.size))
  go_wp2
  go_ret
  exact ⟨by rw [HR2.out]; rfl, HB2.out⟩
end Go.Proofs.YtfnlehnhcekpkaaDoor
