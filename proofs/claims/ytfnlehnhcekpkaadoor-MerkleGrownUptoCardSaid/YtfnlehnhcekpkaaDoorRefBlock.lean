/- codicilref01: rotr, k, block. No conditions. -/
import Derived.Test.YtfnlehnhcekpkaaDoorShaBlock
import Derived.Test.YtfnlehnhcekpkaaDoorPush
set_option linter.unusedVariables false
set_option linter.unusedSimpArgs false
namespace Go.Proofs.YtfnlehnhcekpkaaDoor
open Go Go.RowKit Go.BigFrame
set_option maxRecDepth 100000

theorem or_comm32 (a b : Int) : bits .or .u32 a b = bits .or .u32 b a := by
  show IntKind.u32.wrap ((BitVec.ofInt 32 a ||| BitVec.ofInt 32 b).toNat : Int) = IntKind.u32.wrap ((BitVec.ofInt 32 b ||| BitVec.ofInt 32 a).toNat : Int)
  rw [BitVec.or_comm]
theorem not_of_sub (x : Int) : BitVec.ofInt 32 ((4294967295 - x) % 4294967296) = ~~~ BitVec.ofInt 32 x := by
  apply BitVec.eq_of_toNat_eq
  rw [BitVec.toNat_not, BitVec.toNat_ofInt, BitVec.toNat_ofInt]
  omega
theorem not_of_xor (x : Int) : BitVec.ofInt 32 (bits .xor .u32 IntKind.u32.max x) = ~~~ BitVec.ofInt 32 x := by
  have h : BitVec.ofInt 32 IntKind.u32.max = BitVec.allOnes 32 := by decide
  show BitVec.ofInt 32 (IntKind.u32.wrap ((BitVec.ofInt 32 IntKind.u32.max ^^^ BitVec.ofInt 32 x).toNat : Int)) = _
  rw [h, BitVec.allOnes_xor, IntKind.wrap_u32']
  apply BitVec.eq_of_toNat_eq
  rw [BitVec.toNat_ofInt]
  have := (~~~ BitVec.ofInt 32 x).isLt
  omega
theorem ch_ref (x g : Int) : bits .and .u32 ((4294967295 - x) % 4294967296) g = bits .and .u32 (bits .xor .u32 IntKind.u32.max x) g := by
  show IntKind.u32.wrap ((BitVec.ofInt 32 ((4294967295 - x) % 4294967296) &&& BitVec.ofInt 32 g).toNat : Int) = IntKind.u32.wrap ((BitVec.ofInt 32 (bits .xor .u32 IntKind.u32.max x) &&& BitVec.ofInt 32 g).toNat : Int)
  rw [not_of_sub, not_of_xor]

set_option maxHeartbeats 400000 in
theorem ref_rotr_any (x n : Int) (w : World) (h : 1 ≤ n) (h' : n ≤ 31) :
    Calls Tryd.prog 80 #[.int .u32 x, .int .i64 n] w fun e w' => e = .returned (.int .u32 (rot x n)) ∧ Below w.heap.size w w' := by
  have hs1 : 0 ≤ n := by omega
  have hs2 : n ≤ 64 := by omega
  have hs3 : 0 ≤ 32 - n := by omega
  have hs4 : 32 - n ≤ 64 := by omega
  go_enter Tryd.func80, Tryd.ntmps80
  go_wp2
  refine mix_start [] (Cls w) (by kernel_rfl) (Cls.of ((Below.refl _ _).drew)) ?_
  refine mix_flt (by kernel_rfl) [0, 1, 2, 3, 4, 5, 6, 7, 8] 0 _ _ (by kernel_rfl) ?_
  simp only [opsAt, List.map_cons, List.map_nil, List.toList_toArray, List.getD_cons_succ, List.getD_cons_zero]
  unfold Cls
  repeat (go_big_quiet_step (fail))
  refine wpQuiet_nil ?_
  (try rw [← Cls_def])
  refine mix_end [] (by kernel_rfl) (fun w1 hw1 => ?_)
  refine wpList_nil ?_
  obtain ⟨y, rfl⟩ := hw1
  refine Calm.normal ?_
  go_wp2
  go_ret
  exact ⟨ret_u32 (by unfold rot; rw [or_comm32]), ext_below w y⟩

def u32c (xs : List Int) : List Value := xs.map (Value.int .u32)
theorem u32c_arr (xs : List Int) : (u32c xs).toArray = u32s xs := rfl
theorem u32c_get {xs : List Int} {i : Nat} (h : i < xs.length) : (u32c xs)[i]? = some (.int .u32 (xs[i]?.getD 0)) := by simp [u32c, h]
set_option maxHeartbeats 400000 in
theorem ref_k_any (w : World) : Calls Tryd.prog 81 #[] w fun e w' => e = .returned (.slice (some ⟨w.heap.size, 0, none⟩) 64 64) ∧ (IsBlk w' w.heap.size (u32s kTab) 64 ∧ Below w.heap.size w w') := by
  go_enter Tryd.func81, Tryd.ntmps81
  go_wp2
  go_ret
  exact ⟨rfl, IsBlk.new _ _ _, (Below.refl _ _).alloc (Nat.le_refl _) _⟩

def wordN (l : List UInt8) (k : Nat) : Nat → Int
  | 0 => 0
  | j + 1 => wordN l k j * 256 + by_ l (4 * k + j)
theorem wordN_four (l : List UInt8) (k : Nat) : wordN l k 4 = word l k := by
  simp only [wordN, word, Nat.add_zero]
  omega
theorem wordN_lt (l : List UInt8) (k : Nat) : ∀ j, j ≤ 4 → 0 ≤ wordN l k j ∧ wordN l k j < 256 ^ j
  | 0, _ => by simp [wordN]
  | j + 1, h => by
    have h1 := wordN_lt l k j (by omega)
    have h2 := by_lt l (4 * k + j)
    simp only [wordN]
    rw [Int.pow_succ]
    omega
theorem wordN_step (l : List UInt8) (k j : Nat) (h : j < 4) : (256 * wordN l k j + by_ l (4 * k + j)) % 4294967296 = wordN l k (j + 1) := by
  have h1 := wordN_lt l k j (by omega)
  have h2 := by_lt l (4 * k + j)
  have h3 : (256 : Int) ^ j ≤ 16777216 := by
    match j, h with
    | 0, _ | 1, _ | 2, _ | 3, _ => decide
  simp only [wordN]
  omega
theorem sched_succ (l : List UInt8) (k : Nat) (h : k < 16) : sched l (k + 1) = sched l k ++ [word l k] := by rw [sched, if_pos h]
theorem sched_succ' (l : List UInt8) (k : Nat) (h : ¬ k < 16) : sched l (k + 1) = sched l k ++ [nextW (sched l k) k] := by rw [sched, if_neg h]
theorem u32c_app (xs ys : List Int) : u32c (xs ++ ys) = u32c xs ++ u32c ys := by simp [u32c]

theorem eight_cells {w : World} {g : Nat} {t : TypeId} {v0 v1 v2 v3 v4 v5 v6 v7 : Value} (h : IsBlk w g #[v0, v1, v2, v3, v4, v5, v6, v7] t) :
    w.cell? ⟨g, 0, none⟩ = some v0 ∧ w.cell? ⟨g, 1, none⟩ = some v1 ∧ w.cell? ⟨g, 2, none⟩ = some v2 ∧ w.cell? ⟨g, 3, none⟩ = some v3 ∧ w.cell? ⟨g, 4, none⟩ = some v4 ∧ w.cell? ⟨g, 5, none⟩ = some v5 ∧ w.cell? ⟨g, 6, none⟩ = some v6 ∧ w.cell? ⟨g, 7, none⟩ = some v7 :=
  ⟨h.cell rfl, h.cell rfl, h.cell rfl, h.cell rfl, h.cell rfl, h.cell rfl, h.cell rfl, h.cell rfl⟩
theorem eight_set {w : World} {g : Nat} {t : TypeId} {v0 v1 v2 v3 v4 v5 v6 v7 : Value} (h : IsBlk w g #[v0, v1, v2, v3, v4, v5, v6, v7] t) (u0 u1 u2 u3 u4 u5 u6 u7 : Value) :
    IsBlk ((((((((w.setCell ⟨g, 0, none⟩ u0).setCell ⟨g, 1, none⟩ u1).setCell ⟨g, 2, none⟩ u2).setCell ⟨g, 3, none⟩ u3).setCell ⟨g, 4, none⟩ u4).setCell ⟨g, 5, none⟩ u5).setCell ⟨g, 6, none⟩ u6).setCell ⟨g, 7, none⟩ u7) g #[u0, u1, u2, u3, u4, u5, u6, u7] t := by
  have := (((((((h.set 0 u0).set 1 u1).set 2 u2).set 3 u3).set 4 u4).set 5 u5).set 6 u6).set 7 u7
  simpa using this
theorem eight_other {w : World} {g g' : Nat} {t : TypeId} {cs : Array Value} (h : IsBlk w g' cs t) (hne : g' ≠ g) (u0 u1 u2 u3 u4 u5 u6 u7 : Value) :
    IsBlk ((((((((w.setCell ⟨g, 0, none⟩ u0).setCell ⟨g, 1, none⟩ u1).setCell ⟨g, 2, none⟩ u2).setCell ⟨g, 3, none⟩ u3).setCell ⟨g, 4, none⟩ u4).setCell ⟨g, 5, none⟩ u5).setCell ⟨g, 6, none⟩ u6).setCell ⟨g, 7, none⟩ u7) g' cs t := by
  iterate 8 refine IsBlk.set_other ?_ (by simpa using hne.symm) _
  exact h
theorem eight_below {B g : Nat} {w0 w : World} (h : Below B w0 w) (hb : B ≤ g) (u0 u1 u2 u3 u4 u5 u6 u7 : Value) :
    Below B w0 ((((((((w.setCell ⟨g, 0, none⟩ u0).setCell ⟨g, 1, none⟩ u1).setCell ⟨g, 2, none⟩ u2).setCell ⟨g, 3, none⟩ u3).setCell ⟨g, 4, none⟩ u4).setCell ⟨g, 5, none⟩ u5).setCell ⟨g, 6, none⟩ u6).setCell ⟨g, 7, none⟩ u7) := by
  iterate 8 refine below_set ?_ hb
  exact h
theorem below_trans_at {B : Nat} {w0 w1 w2 : World} (h : Below B w0 w1) (k : Below w1.heap.size w1 w2) (hB : B ≤ w1.heap.size := by omega) : Below B w0 w2 := h.trans (k.mono hB)
theorem addN_comm (hs vs : List Int) (h : hs.length = vs.length) : addN hs vs hs.length = addN vs hs vs.length := by
  apply List.ext_getElem
  · simp [addN, h]
  · intro i h1 h2
    simp only [addN, List.length_map, List.length_range] at h1 h2
    simp only [addN, List.getElem_map, List.getElem_range, if_pos h1, if_pos h2]
    rw [Int.add_comm]

set_option maxHeartbeats 4000000 in
theorem ref_block_any (w : World) (a b c d e f g h' : Int) (s : ByteArray) (hs : 64 ≤ s.size) (hs' : s.size ≤ 281474976710656) :
    Calls Tryd.prog 73 #[.agg (u32s [a, b, c, d, e, f, g, h']), .string s] w fun e' w' => e' = .returned (.agg (u32s (blk [a, b, c, d, e, f, g, h'] s.data.toList))) ∧ Below w.heap.size w w' := by
  show Calls Tryd.prog 73 #[.agg #[.int .u32 a, .int .u32 b, .int .u32 c, .int .u32 d, .int .u32 e, .int .u32 f, .int .u32 g, .int .u32 h'], .string s] w _
  obtain ⟨l, hl⟩ : ∃ l, l = s.data.toList := ⟨_, rfl⟩
  rw [← hl]
  have HL := Lib.hid hl; clear hl
  go_enter Tryd.func73, Tryd.ntmps73
  go_wp2
  go_loopw [6, 5] (fun i v wr => ∃ k : Nat, k ≤ 16 ∧ i = .int .i64 k ∧ wr.ownsRow (w.heap.size + 2) 64 1 v k (u32c (sched l k)) ∧ Below w.heap.size w wr ∧ IsBlk wr w.heap.size #[.int .u32 a, .int .u32 b, .int .u32 c, .int .u32 d, .int .u32 e, .int .u32 f, .int .u32 g, .int .u32 h'] 86 ∧ IsBlk wr (w.heap.size + 1) #[.int .u32 0, .int .u32 0, .int .u32 0, .int .u32 0, .int .u32 0, .int .u32 0, .int .u32 0, .int .u32 0] 86) (fun i _ _ => 16 - (intOf i).toNat)
  case atStart =>
    refine ⟨0, by omega, rfl, ⟨rfl, Or.inl ⟨rfl, rfl⟩⟩, ((Below.refl _ _).alloc (Nat.le_refl _) _).alloc (by simp) _, (IsBlk.new _ _ _).alloc _, IsBlk.new_at (by simp)⟩
  case round =>
  obtain ⟨k, hk, rfl, hown, hb, hA, hR⟩ := hrel
  by_cases hlt : k < 16
  · have HO := Lib.hid hown; clear hown
    have HB := Lib.hid hb; clear hb
    have HA := Lib.hid hA; clear hA
    have HR := Lib.hid hR; clear hR
    have hRs : w.heap.size + 1 < wr.heap.size := HR.out.lt
    obtain ⟨wq, rfl⟩ : ∃ wo : World, wo = wr := ⟨_, rfl⟩
    go_wp2
    go_loopw [8, 7] (fun j v wx => ∃ m : Nat, m ≤ 4 ∧ j = .int .i64 m ∧ v = .int .u32 (wordN l k m) ∧ wx = wq) (fun j _ _ => 4 - (intOf j).toNat)
    case atStart => exact ⟨0, by omega, rfl, rfl, rfl⟩
    case round =>
    obtain ⟨m, hm, rfl, rfl, hwx⟩ := hrel
    by_cases hlt4 : m < 4
    · have i0 : 4 * (k : Int) + (m : Int) < (s.size : Int) := by omega
      have i1 : 0 ≤ 4 * (k : Int) + (m : Int) := by omega
      have hst := wordN_step l k m hlt4
      obtain ⟨acc, hacc⟩ : ∃ acc, acc = wordN l k m := ⟨_, rfl⟩
      rw [← hacc] at hst ⊢
      have HST := Lib.hid hst; clear hst
      have HAC := Lib.hid hacc; clear hacc
      have HWX := Lib.hid hwx; clear hwx
      go_wp2
      go_roundw
      case rel =>
        refine ⟨m + 1, by omega, by go_num, ?_, HWX.out⟩
        have h1 := HST.out
        rw [by_at, ← HL.out]
        congr 1
        omega
      case measure => simp [intOf]; omega
    · rw [show (m : Int) = 4 by omega]
      obtain rfl : m = 4 := by omega
      subst hwx
      rw [wordN_four]
      go_wp2_with (at_builtin; refine push_one (w.heap.size + 2) rfl _ _ 112 64 (.int .u32 0) 4 rfl Tryd.underlying112 (by kernel_rfl) rfl (by decide) _ (u32c (sched l k)) (by rw [show (u32c (sched l k)).length = k by simp [u32c, sched_length]]; exact HO.out) _ rfl rfl rfl (by omega) (by simp [u32c, sched_length]; omega) ?_)
      intro v1 w3 hown3 hg3
      have hob : ∀ j, Value.ownBlock _ = some j → w.heap.size + 2 ≤ j := fun j hj => (HO.out.lt j hj).1
      go_wp2
      go_roundw
      case rel =>
        rw [show (u32c (sched l k)).length = k by simp [u32c, sched_length], show u32c (sched l k) ++ [Value.int .u32 (word l k)] = u32c (sched l k ++ [word l k]) by simp [u32c], ← sched_succ l k hlt] at hown3
        exact ⟨k + 1, by omega, by go_num, hown3, HB.out.grown hg3 (by omega) (fun j hj => by have := hob j hj; omega), blk_grown HA.out hg3 (fun e => by have := hob _ e; omega), blk_grown HR.out hg3 (fun e => by have := hob _ e; omega)⟩
      case measure => simp [intOf]; omega
  · rw [show (k : Int) = 16 by omega]
    obtain rfl : k = 16 := by omega
    clear hlt hk
    have HO := Lib.hid hown; clear hown
    have HB := Lib.hid hb; clear hb
    have HA := Lib.hid hA; clear hA
    have HR := Lib.hid hR; clear hR
    go_wp2
    go_loopw [9, 5] (fun i v wr => ∃ k : Nat, 16 ≤ k ∧ k ≤ 64 ∧ i = .int .i64 k ∧ wr.ownsRow (w.heap.size + 2) 64 1 v k (u32c (sched l k)) ∧ Below w.heap.size w wr ∧ IsBlk wr w.heap.size #[.int .u32 a, .int .u32 b, .int .u32 c, .int .u32 d, .int .u32 e, .int .u32 f, .int .u32 g, .int .u32 h'] 86 ∧ IsBlk wr (w.heap.size + 1) #[.int .u32 0, .int .u32 0, .int .u32 0, .int .u32 0, .int .u32 0, .int .u32 0, .int .u32 0, .int .u32 0] 86) (fun i _ _ => 64 - (intOf i).toNat)
    case atStart => exact ⟨16, by omega, by omega, rfl, HO.out, HB.out, HA.out, HR.out⟩
    case round =>
    clear HO HB HA HR
    obtain ⟨k, hk, hk', rfl, hown, hb, hA, hR⟩ := hrel
    by_cases hlt : k < 64
    · obtain ⟨gg, cap, rfl, hgb, hgl, hkc, hcl⟩ := own_open hown (by omega)
      have hc2 : wr.cell? ⟨gg, k - 2, none⟩ = some (.int .u32 ((sched l k)[k - 2]?.getD 0)) := hcl _ _ (by omega) (u32c_get (by rw [sched_length]; omega))
      have hc15 : wr.cell? ⟨gg, k - 15, none⟩ = some (.int .u32 ((sched l k)[k - 15]?.getD 0)) := hcl _ _ (by omega) (u32c_get (by rw [sched_length]; omega))
      have hc16 : wr.cell? ⟨gg, k - 16, none⟩ = some (.int .u32 ((sched l k)[k - 16]?.getD 0)) := hcl _ _ (by omega) (u32c_get (by rw [sched_length]; omega))
      have hc7 : wr.cell? ⟨gg, k - 7, none⟩ = some (.int .u32 ((sched l k)[k - 7]?.getD 0)) := hcl _ _ (by omega) (u32c_get (by rw [sched_length]; omega))
      clear hcl
      have hRs : w.heap.size + 1 < wr.heap.size := hR.lt
      have HO := Lib.hid hown; clear hown
      have HB := Lib.hid hb; clear hb
      have HA := Lib.hid hA; clear hA
      have HR := Lib.hid hR; clear hR
      go_wp2
      refine mix_start [] (Cls wr) (by kernel_rfl) (Cls.of ((Below.refl _ _).drew)) ?_
      refine mix_flt (by kernel_rfl) [0, 1, 2, 3, 4, 6, 7, 8, 9, 10, 13, 14, 15, 16, 17, 18] 5 _ _ (by kernel_rfl) ?_
      simp only [opsAt, List.map_cons, List.map_nil, List.toList_toArray, List.getD_cons_succ, List.getD_cons_zero]
      unfold Cls
      repeat (go_big_quiet_step (fail))
      refine wpQuiet_nil ?_
      (try rw [← Cls_def])
      refine mix_ch (i := 5) (fuel := 4) (by kernel_rfl) _ rfl (fun w1 hw1 => ?_)
      go_wp2_with (go_at_call 80; refine (ref_rotr_any _ _ _ (by omega) (by omega)).mono ?_; rintro e w' ⟨rfl, hb⟩)
      refine Then.same (hw1.trans hb) ?_
      refine mix_ch (i := 11) (fuel := 3) (by kernel_rfl) _ rfl (fun w1 hw1 => ?_)
      go_wp2_with (go_at_call 80; refine (ref_rotr_any _ _ _ (by omega) (by omega)).mono ?_; rintro e w' ⟨rfl, hb⟩)
      refine Then.same (hw1.trans hb) ?_
      refine mix_flt (by kernel_rfl) [12, 19, 20] 0 _ _ (by kernel_rfl) ?_
      simp only [opsAt, List.map_cons, List.map_nil, List.toList_toArray, List.getD_cons_succ, List.getD_cons_zero]
      unfold Cls
      repeat (go_big_quiet_step (fail))
      refine wpQuiet_nil ?_
      (try rw [← Cls_def])
      refine mix_end [] (by kernel_rfl) (fun w1 hw1 => ?_)
      refine wpList_nil ?_
      obtain ⟨x, rfl⟩ := hw1
      refine Calm.normal ?_
      go_wp2
      refine mix_start [] (Cls wr) (by kernel_rfl) (Cls.of ((ext_below wr x).drew)) ?_
      refine mix_flt (by kernel_rfl) [0, 1, 2, 3, 4, 6, 7, 8, 9, 10, 13, 14, 15, 16, 17, 18] 5 _ _ (by kernel_rfl) ?_
      simp only [opsAt, List.map_cons, List.map_nil, List.toList_toArray, List.getD_cons_succ, List.getD_cons_zero]
      unfold Cls
      repeat (go_big_quiet_step (fail))
      refine wpQuiet_nil ?_
      (try rw [← Cls_def])
      refine mix_ch (i := 5) (fuel := 4) (by kernel_rfl) _ rfl (fun w1 hw1 => ?_)
      go_wp2_with (go_at_call 80; refine (ref_rotr_any _ _ _ (by omega) (by omega)).mono ?_; rintro e w' ⟨rfl, hb⟩)
      refine Then.same (hw1.trans hb) ?_
      refine mix_ch (i := 11) (fuel := 3) (by kernel_rfl) _ rfl (fun w1 hw1 => ?_)
      go_wp2_with (go_at_call 80; refine (ref_rotr_any _ _ _ (by omega) (by omega)).mono ?_; rintro e w' ⟨rfl, hb⟩)
      refine Then.same (hw1.trans hb) ?_
      refine mix_flt (by kernel_rfl) [12, 19, 20] 0 _ _ (by kernel_rfl) ?_
      simp only [opsAt, List.map_cons, List.map_nil, List.toList_toArray, List.getD_cons_succ, List.getD_cons_zero]
      unfold Cls
      repeat (go_big_quiet_step (fail))
      refine wpQuiet_nil ?_
      (try rw [← Cls_def])
      refine mix_end [] (by kernel_rfl) (fun w1 hw1 => ?_)
      refine wpList_nil ?_
      obtain ⟨y, rfl⟩ := hw1
      refine Calm.normal ?_
      go_wp2
      refine mix_start [17, 18] (Cls wr) (by kernel_rfl) (Cls.of ((ext_below wr y).drew)) ?_
      refine mix_flt (by kernel_rfl) [0, 1, 2, 3, 4, 5, 6, 7, 8, 9, 10, 11, 12, 13, 14, 15] 3 _ _ (by kernel_rfl) ?_
      simp only [opsAt, List.map_cons, List.map_nil, List.toList_toArray, List.getD_cons_succ, List.getD_cons_zero]
      unfold Cls
      repeat (go_big_quiet_step (fail))
      refine wpQuiet_nil ?_
      (try rw [← Cls_def])
      refine mix_ch (i := 16) (fuel := 2) (by kernel_rfl) _ rfl (fun w1 hw1 => ?_)
      go_wp2_with (fail)
      refine Then.alloc hw1 ?_
      have hwa := hw1
      obtain ⟨wa, rfl⟩ : ∃ wo : World, wo = w1 := ⟨_, rfl⟩
      refine mix_end [17, 18] (by kernel_rfl) (fun w1 hw1 => ?_)
      simp only [opsAt, List.map_cons, List.map_nil, List.toList_toArray, List.getD_cons_succ, List.getD_cons_zero]
      have hba : Below wr.heap.size wr wa := hwa.below
      have hsza : wr.heap.size ≤ wa.heap.size := hba.size
      have hbw : Below wr.heap.size wr w1 := below_ext (hba.alloc (by omega) _) hw1.below
      have hG := (IsBlk.new wa _ _).ext hw1.below
      have hszw : wr.heap.size ≤ w1.heap.size := hbw.size
      refine push_at (w.heap.size + 2) rfl _ _ 112 64 (.int .u32 0) 4 rfl Tryd.underlying112 (by kernel_rfl) rfl (by decide) _ k _ (own_ext HO.out hbw) wa.heap.size 1 [_] hG rfl rfl rfl (by simp [Value.oneCell']) (by omega) (by omega) ?_
      intro v1 w3 hown3 hg3
      have hob : ∀ j, Value.ownBlock _ = some j → w.heap.size + 2 ≤ j := fun j hj => (HO.out.lt j hj).1
      go_wp2
      refine Calm.normal ?_
      go_wp2
      go_roundw
      case rel =>
        have h3 : w3.ownsRow (w.heap.size + 2) 64 1 v1 (k + 1) (u32c (sched l (k + 1))) := by
          rw [sched_succ' l k (by omega), u32c_app]
          exact hown3
        have hbb := below_ext HB.out hbw
        exact ⟨k + 1, by omega, by omega, by go_num, h3, hbb.grown hg3 (by omega) (fun j hj => by have := hob j hj; omega), blk_grown (HA.out.ext hbw) hg3 (fun e => by have := hob _ e; omega), blk_grown (HR.out.ext hbw) hg3 (fun e => by have := hob _ e; omega)⟩
      case measure => simp [intOf]; omega
    · rw [show (k : Int) = 64 by omega]
      obtain rfl : k = 64 := by omega
      clear hlt hk hk'
      obtain ⟨gg, cap, rfl, hgb, hgl, hkc, hcl⟩ := own_open hown (by omega)
      have p0 : wr.cell? ⟨w.heap.size, 0, none⟩ = some (.int .u32 a) := hA.cell rfl
      have p1 : wr.cell? ⟨w.heap.size, 1, none⟩ = some (.int .u32 b) := hA.cell rfl
      have p2 : wr.cell? ⟨w.heap.size, 2, none⟩ = some (.int .u32 c) := hA.cell rfl
      have p3 : wr.cell? ⟨w.heap.size, 3, none⟩ = some (.int .u32 d) := hA.cell rfl
      have p4 : wr.cell? ⟨w.heap.size, 4, none⟩ = some (.int .u32 e) := hA.cell rfl
      have p5 : wr.cell? ⟨w.heap.size, 5, none⟩ = some (.int .u32 f) := hA.cell rfl
      have p6 : wr.cell? ⟨w.heap.size, 6, none⟩ = some (.int .u32 g) := hA.cell rfl
      have p7 : wr.cell? ⟨w.heap.size, 7, none⟩ = some (.int .u32 h') := hA.cell rfl
      have hcw : ∀ i, i < 64 → wr.cell? ⟨gg, i, none⟩ = some (.int .u32 ((sched l 64)[i]?.getD 0)) := fun i hi => hcl i _ hi (u32c_get (by rw [sched_length]; exact hi))
      clear hcl hown
      have HCW := Lib.hid hcw; clear hcw
      have hRs : w.heap.size + 1 < wr.heap.size := hR.lt
      have HB := Lib.hid hb; clear hb
      have HA := Lib.hid hA; clear hA
      have HR := Lib.hid hR; clear hR
      obtain ⟨wq, rfl⟩ : ∃ wo : World, wo = wr := ⟨_, rfl⟩
      go_wp2_with fail
      go_at_call 81
      refine (ref_k_any _).mono ?_
      rintro e' w2 ⟨rfl, hkt, hb⟩
      have hsq : (wq.alloc (.cells #[.int .u32 a, .int .u32 b, .int .u32 c, .int .u32 d, .int .u32 e, .int .u32 f, .int .u32 g, .int .u32 h'] 86)).heap.size = wq.heap.size + 1 := by simp
      rw [hsq] at hkt ⊢
      have hB0 := (IsBlk.new wq #[.int .u32 a, .int .u32 b, .int .u32 c, .int .u32 d, .int .u32 e, .int .u32 f, .int .u32 g, .int .u32 h'] 86).ext hb
      have hbq : Below wq.heap.size wq w2 := below_ext ((Below.refl _ _).alloc (Nat.le_refl _) _) hb
      have HKT := Lib.hid hkt; clear hkt
      have HB0 := Lib.hid hB0; clear hB0
      have HBQ := Lib.hid hbq; clear hbq hb hsq p0 p1 p2 p3 p4 p5 p6 p7
      go_wp2
      go_loopw [14] (fun i wx => ∃ k : Nat, k ≤ 64 ∧ i = .int .i64 k ∧ Below wq.heap.size wq wx ∧ IsBlk wx (wq.heap.size + 1) (u32s kTab) 64 ∧ ∃ a1 b1 c1 d1 e1 f1 g1 h1 : Int, rnd (sched l 64) [a, b, c, d, e, f, g, h'] k = [a1, b1, c1, d1, e1, f1, g1, h1] ∧ IsBlk wx wq.heap.size #[.int .u32 a1, .int .u32 b1, .int .u32 c1, .int .u32 d1, .int .u32 e1, .int .u32 f1, .int .u32 g1, .int .u32 h1] 86) (fun i _ => 64 - (intOf i).toNat)
      case atStart => exact ⟨0, by omega, rfl, HBQ.out, HKT.out, a, b, c, d, e, f, g, h', rfl, HB0.out⟩
      case round =>
      clear HKT HB0 HBQ
      obtain ⟨k, hk, rfl, hb, hkt, a1, b1, c1, d1, e1, f1, g1, h1, hrnd, hblk⟩ := hrel
      by_cases hlt : k < 64
      · have HRN := Lib.hid hrnd; clear hrnd
        have k0 : wr.cell? ⟨wq.heap.size, 0, none⟩ = some (.int .u32 a1) := hblk.cell rfl
        have k1 : wr.cell? ⟨wq.heap.size, 1, none⟩ = some (.int .u32 b1) := hblk.cell rfl
        have k2 : wr.cell? ⟨wq.heap.size, 2, none⟩ = some (.int .u32 c1) := hblk.cell rfl
        have k3 : wr.cell? ⟨wq.heap.size, 3, none⟩ = some (.int .u32 d1) := hblk.cell rfl
        have k4 : wr.cell? ⟨wq.heap.size, 4, none⟩ = some (.int .u32 e1) := hblk.cell rfl
        have k5 : wr.cell? ⟨wq.heap.size, 5, none⟩ = some (.int .u32 f1) := hblk.cell rfl
        have k6 : wr.cell? ⟨wq.heap.size, 6, none⟩ = some (.int .u32 g1) := hblk.cell rfl
        have k7 : wr.cell? ⟨wq.heap.size, 7, none⟩ = some (.int .u32 h1) := hblk.cell rfl
        have kf : ∀ j, wr.frozen? ⟨wq.heap.size, j, none⟩ = false := fun j => hblk.frozen j
        have kt : wr.cell? ⟨wq.heap.size + 1, k, none⟩ = some (.int .u32 (kTab[k]?.getD 0)) := hkt.cell (u32s_get' (by rw [kTab_length]; exact hlt))
        have kw : wr.cell? ⟨gg, k, none⟩ = some (.int .u32 ((sched l 64)[k]?.getD 0)) := by
          rw [hb.cell (p := ⟨gg, k, none⟩) hgl]
          exact HCW.out k hlt
        have hv1 : wq.heap.size < wr.heap.size := hblk.lt
        have hv3 : wq.heap.size + 1 < wr.heap.size := hkt.lt
        have hv2 : gg < wr.heap.size := by omega
        have H2 := Lib.hid hblk; clear hblk
        have HKT := Lib.hid hkt; clear hkt
        have HBQ := Lib.hid hb; clear hb
        go_wp2
        refine mix_start [] (Cls wr) (by kernel_rfl) (Cls.of ((Below.refl _ _).drew)) ?_
        refine mix_flt (by kernel_rfl) [0, 1, 3, 4, 7, 8] 6 _ _ (by kernel_rfl) ?_
        simp only [opsAt, List.map_cons, List.map_nil, List.toList_toArray, List.getD_cons_succ, List.getD_cons_zero]
        unfold Cls
        repeat (go_big_quiet_step (fail))
        refine wpQuiet_nil ?_
        (try rw [← Cls_def])
        refine mix_ch (i := 2) (fuel := 5) (by kernel_rfl) _ rfl (fun w1 hw1 => ?_)
        go_wp2_with (go_at_call 80; refine (ref_rotr_any _ _ _ (by omega) (by omega)).mono ?_; rintro e w' ⟨rfl, hb⟩)
        refine Then.same (hw1.trans hb) ?_
        refine mix_ch (i := 5) (fuel := 4) (by kernel_rfl) _ rfl (fun w1 hw1 => ?_)
        go_wp2_with (go_at_call 80; refine (ref_rotr_any _ _ _ (by omega) (by omega)).mono ?_; rintro e w' ⟨rfl, hb⟩)
        refine Then.same (hw1.trans hb) ?_
        refine mix_flt (by kernel_rfl) [6] 3 _ _ (by kernel_rfl) ?_
        simp only [opsAt, List.map_cons, List.map_nil, List.toList_toArray, List.getD_cons_succ, List.getD_cons_zero]
        unfold Cls
        repeat (go_big_quiet_step (fail))
        refine wpQuiet_nil ?_
        (try rw [← Cls_def])
        refine mix_ch (i := 9) (fuel := 2) (by kernel_rfl) _ rfl (fun w1 hw1 => ?_)
        go_wp2_with (go_at_call 80; refine (ref_rotr_any _ _ _ (by omega) (by omega)).mono ?_; rintro e w' ⟨rfl, hb⟩)
        refine Then.same (hw1.trans hb) ?_
        refine mix_flt (by kernel_rfl) [10, 11] 0 _ _ (by kernel_rfl) ?_
        simp only [opsAt, List.map_cons, List.map_nil, List.toList_toArray, List.getD_cons_succ, List.getD_cons_zero]
        unfold Cls
        repeat (go_big_quiet_step (fail))
        refine wpQuiet_nil ?_
        (try rw [← Cls_def])
        refine mix_end [] (by kernel_rfl) (fun w1 hw1 => ?_)
        refine wpList_nil ?_
        obtain ⟨x, rfl⟩ := hw1
        refine Calm.normal ?_
        go_wp2
        refine mix_start [] (Cls wr) (by kernel_rfl) (Cls.of ((ext_below wr x).drew)) ?_
        refine mix_flt (by kernel_rfl) [0, 1, 2, 3, 4, 5, 6, 7, 8, 9, 10, 11, 12, 13, 14, 15, 16, 17, 18, 19, 20, 21, 22, 23, 24, 25, 26, 27] 0 _ _ (by kernel_rfl) ?_
        simp only [opsAt, List.map_cons, List.map_nil, List.toList_toArray, List.getD_cons_succ, List.getD_cons_zero]
        unfold Cls
        repeat (go_big_quiet_step (fail))
        refine wpQuiet_nil ?_
        (try rw [← Cls_def])
        refine mix_end [] (by kernel_rfl) (fun w1 hw1 => ?_)
        refine wpList_nil ?_
        obtain ⟨y, rfl⟩ := hw1
        refine Calm.normal ?_
        go_wp2
        refine mix_start [] (Cls wr) (by kernel_rfl) (Cls.of ((ext_below wr y).drew)) ?_
        refine mix_flt (by kernel_rfl) [0, 1, 3, 4, 7, 8] 6 _ _ (by kernel_rfl) ?_
        simp only [opsAt, List.map_cons, List.map_nil, List.toList_toArray, List.getD_cons_succ, List.getD_cons_zero]
        unfold Cls
        repeat (go_big_quiet_step (fail))
        refine wpQuiet_nil ?_
        (try rw [← Cls_def])
        refine mix_ch (i := 2) (fuel := 5) (by kernel_rfl) _ rfl (fun w1 hw1 => ?_)
        go_wp2_with (go_at_call 80; refine (ref_rotr_any _ _ _ (by omega) (by omega)).mono ?_; rintro e w' ⟨rfl, hb⟩)
        refine Then.same (hw1.trans hb) ?_
        refine mix_ch (i := 5) (fuel := 4) (by kernel_rfl) _ rfl (fun w1 hw1 => ?_)
        go_wp2_with (go_at_call 80; refine (ref_rotr_any _ _ _ (by omega) (by omega)).mono ?_; rintro e w' ⟨rfl, hb⟩)
        refine Then.same (hw1.trans hb) ?_
        refine mix_flt (by kernel_rfl) [6] 3 _ _ (by kernel_rfl) ?_
        simp only [opsAt, List.map_cons, List.map_nil, List.toList_toArray, List.getD_cons_succ, List.getD_cons_zero]
        unfold Cls
        repeat (go_big_quiet_step (fail))
        refine wpQuiet_nil ?_
        (try rw [← Cls_def])
        refine mix_ch (i := 9) (fuel := 2) (by kernel_rfl) _ rfl (fun w1 hw1 => ?_)
        go_wp2_with (go_at_call 80; refine (ref_rotr_any _ _ _ (by omega) (by omega)).mono ?_; rintro e w' ⟨rfl, hb⟩)
        refine Then.same (hw1.trans hb) ?_
        refine mix_flt (by kernel_rfl) [10, 11] 0 _ _ (by kernel_rfl) ?_
        simp only [opsAt, List.map_cons, List.map_nil, List.toList_toArray, List.getD_cons_succ, List.getD_cons_zero]
        unfold Cls
        repeat (go_big_quiet_step (fail))
        refine wpQuiet_nil ?_
        (try rw [← Cls_def])
        refine mix_end [] (by kernel_rfl) (fun w1 hw1 => ?_)
        refine wpList_nil ?_
        obtain ⟨z, rfl⟩ := hw1
        refine Calm.normal ?_
        go_wp2
        rw [ch_ref]
        have hbz := ext_below wr z
        have hB2 := H2.out.ext hbz
        refine ⟨⟨k + 1, by omega, by go_num, eight_below (below_ext HBQ.out hbz) (Nat.le_refl _) _ _ _ _ _ _ _ _, eight_other (HKT.out.ext hbz) (by omega) _ _ _ _ _ _ _ _, _, _, _, _, _, _, _, _, rnd_next HRN.out, eight_set hB2 _ _ _ _ _ _ _ _⟩, ?_⟩
        simp [intOf]
        omega
      · rw [show (k : Int) = 64 by omega]
        obtain rfl : k = 64 := by omega
        clear hlt hk
        have HRN := Lib.hid hrnd; clear hrnd
        have H2 := Lib.hid hblk; clear hblk
        have HBQ := Lib.hid hb; clear hb hkt HCW
        go_wp2
        go_loopw [19] (fun i wx => ∃ k : Nat, k ≤ 8 ∧ i = .int .i64 k ∧ Below wq.heap.size wq wx ∧ IsBlk wx wq.heap.size (u32s (addN [a1, b1, c1, d1, e1, f1, g1, h1] [a, b, c, d, e, f, g, h'] k)) 86) (fun i _ => 8 - (intOf i).toNat)
        case atStart => exact ⟨0, by omega, rfl, HBQ.out, by rw [addN_zero]; exact H2.out⟩
        case round =>
        clear H2 HBQ
        obtain ⟨k, hk, rfl, hb, hblk⟩ := hrel
        have hl8 : (addN [a1, b1, c1, d1, e1, f1, g1, h1] [a, b, c, d, e, f, g, h'] k).length = 8 := addN_length _ _ _
        by_cases hlt : k < 8
        · have q0 : wr.cell? ⟨wq.heap.size, k, none⟩ = some (.int .u32 ([a1, b1, c1, d1, e1, f1, g1, h1][k]?.getD 0)) := by
            rw [← addN_at [a1, b1, c1, d1, e1, f1, g1, h1] [a, b, c, d, e, f, g, h'] k hlt]
            exact hblk.cell (u32s_get' (by omega))
          have q1 : wr.frozen? ⟨wq.heap.size, k, none⟩ = false := hblk.frozen k
          have q2 : wr.cell? ⟨w.heap.size, k, none⟩ = some (.int .u32 ([a, b, c, d, e, f, g, h'][k]?.getD 0)) := by
            rw [hb.cell (p := ⟨w.heap.size, k, none⟩) HA.out.lt]
            exact (show IsBlk wq w.heap.size (u32s [a, b, c, d, e, f, g, h']) 86 from HA.out).cell (u32s_get' (by simpa using hlt))
          have q3 : wq.heap.size < wr.heap.size := hblk.lt
          have q4 : w.heap.size < wr.heap.size := by have := HA.out.lt; omega
          obtain ⟨x0, hx0⟩ : ∃ x0, x0 = [a1, b1, c1, d1, e1, f1, g1, h1][k]?.getD 0 := ⟨_, rfl⟩
          obtain ⟨x1, hx1⟩ : ∃ x1, x1 = [a, b, c, d, e, f, g, h'][k]?.getD 0 := ⟨_, rfl⟩
          rw [← hx0] at q0
          rw [← hx1] at q2
          have HX0 := Lib.hid hx0; clear hx0
          have HX1 := Lib.hid hx1; clear hx1
          have H1 := Lib.hid hblk; clear hblk
          have H3 := Lib.hid hb; clear hb
          have HL8 := Lib.hid hl8; clear hl8
          go_wp2
          refine mix_start [8] (Cls wr) (by kernel_rfl) (Cls.of ((Below.refl _ _).drew)) ?_
          refine mix_flt (by kernel_rfl) [0, 1, 2, 3, 4, 5, 6, 7] 1 _ _ (by kernel_rfl) ?_
          simp only [opsAt, List.map_cons, List.map_nil, List.toList_toArray, List.getD_cons_succ, List.getD_cons_zero]
          unfold Cls
          repeat (go_big_quiet_step (fail))
          refine wpQuiet_nil ?_
          (try rw [← Cls_def])
          refine mix_end [8] (by kernel_rfl) (fun w1 hw1 => ?_)
          simp only [opsAt, List.map_cons, List.map_nil, List.toList_toArray, List.getD_cons_succ, List.getD_cons_zero]
          obtain ⟨x, rfl⟩ := hw1
          go_wp2
          refine Calm.normal ?_
          go_wp2
          go_roundw
          case rel =>
            have hbx := ext_below wr x
            refine ⟨k + 1, by omega, by go_num, below_set (below_ext H3.out hbx) (Nat.le_refl _), ?_⟩
            have := (H1.out.ext hbx).set32 k ((x0 + x1) % 4294967296)
            rw [HX0.out, HX1.out, addN_set [a1, b1, c1, d1, e1, f1, g1, h1] [a, b, c, d, e, f, g, h'] k hlt] at this
            rw [HX0.out, HX1.out]
            exact this
          case measure => simp [intOf]; omega
        · rw [show (k : Int) = 8 by omega]
          obtain rfl : k = 8 := by omega
          clear hlt hk
          have hfin : addN [a1, b1, c1, d1, e1, f1, g1, h1] [a, b, c, d, e, f, g, h'] 8 = blk [a, b, c, d, e, f, g, h'] l := by
            have h1 := addN_comm [a1, b1, c1, d1, e1, f1, g1, h1] [a, b, c, d, e, f, g, h'] rfl
            have h2 := HRN.out
            unfold blk
            rw [h2]
            exact h1
          obtain ⟨hs1, hhs⟩ : ∃ hs1, hs1 = blk [a, b, c, d, e, f, g, h'] l := ⟨_, rfl⟩
          rw [hfin, ← hhs] at hl8 hblk
          obtain ⟨a2, b2, c2, d2, e2, f2, g2, h2, hx⟩ := of_eight hl8
          rw [hx] at hblk
          have HE := Lib.hid (hhs.symm.trans hx); clear hhs hx hl8 hfin hs1
          have hR2 := HR.out.below hb HR.out.lt
          have hblk2 : IsBlk wr wq.heap.size #[.int .u32 a2, .int .u32 b2, .int .u32 c2, .int .u32 d2, .int .u32 e2, .int .u32 f2, .int .u32 g2, .int .u32 h2] 86 := hblk
          obtain ⟨p0, p1, p2, p3, p4, p5, p6, p7⟩ := eight_cells hblk2
          obtain ⟨q0, q1, q2, q3, q4, q5, q6, q7⟩ := eight_cells hR2
          have qf : ∀ j, wr.frozen? ⟨w.heap.size + 1, j, none⟩ = false := fun j => hR2.frozen j
          have q8 : w.heap.size + 1 < wr.heap.size := hR2.lt
          have q9 : wq.heap.size < wr.heap.size := hblk2.lt
          have H1 := Lib.hid hR2; clear hR2 hblk hblk2
          have H3 := Lib.hid hb; clear hb
          go_wp2
          rw [HE.out]
          refine bodyPost_ret (v := .agg #[.int .u32 a2, .int .u32 b2, .int .u32 c2, .int .u32 d2, .int .u32 e2, .int .u32 f2, .int .u32 g2, .int .u32 h2]) (results_cell_row Tryd.results73 _ _ (w.heap.size + 1) 86 _ (0, 0) _ rfl (eight_set H1.out _ _ _ _ _ _ _ _) Tryd.underlying86 rfl (by kernel_rfl)) rfl ⟨rfl, eight_below (below_trans_at HB.out H3.out) (by omega) _ _ _ _ _ _ _ _⟩
end Go.Proofs.YtfnlehnhcekpkaaDoor
