/- slices.Reverse of bools; merkle.turns, Shows. Conditions: at most 1024 leaves; paths' texts no longer than 2^40 bytes. -/
import Derived.Test.YtfnlehnhcekpkaaDoorMkA
import Derived.Test.YtfnlehnhcekpkaaDoorMixB
set_option linter.unusedVariables false
set_option linter.unusedSimpArgs false
namespace Go.Proofs.YtfnlehnhcekpkaaDoor
open Go Go.RowKit Go.BigFrame
set_option maxRecDepth 100000

def bools (l : List Bool) : List Value := l.map Value.bool
theorem bools_length (l : List Bool) : (bools l).length = l.length := by simp [bools]
set_option maxHeartbeats 2000000 in
theorem revb_blk (g n cap : Nat) (l : List Bool) (cur : Array Value) (w : World) (hn : l.length = n) (hnb : n ≤ 1099511627776) (hg : IsBlk w g cur 4) (hc : ∀ k, k < n → cur[k]? = some (.bool (l.getD k false))) :
    Calls Tryd.prog 67 #[.slice (some ⟨g, 0, none⟩) n cap] w fun e' w' => e' = .returned (.tuple #[]) ∧ (KeptG g w w' ∧ Below g w w') ∧ w'.heap.size = w.heap.size ∧ ∃ cur', IsBlk w' g cur' 4 ∧ cur'.size = cur.size ∧ ∀ k, k < n → cur'[k]? = some (.bool (l.getD (n - 1 - k) false)) := by
  have HG := Lib.hid hg
  have HC := Lib.hid hc
  clear hg hc hn
  go_enter Tryd.func67, Tryd.ntmps67
  go_wp2
  go_loopw [2, 3] (fun a b wr => ∃ i : Nat, a = .int .i64 i ∧ b = .int .i64 ((n : Int) - 1 - i) ∧ 2 * i ≤ n + 1 ∧ (KeptG g w wr ∧ Below g w wr) ∧ wr.heap.size = w.heap.size ∧ ∃ cur', IsBlk wr g cur' 4 ∧ cur'.size = cur.size ∧ ∀ k, k < n → cur'[k]? = some (.bool (if k < i ∨ n - 1 < k + i then l.getD (n - 1 - k) false else l.getD k false))) (fun a _ _ => n - (intOf a).toNat)
  case atStart =>
    refine ⟨0, rfl, by simp, by omega, ⟨KeptG.refl _ _, Below.refl _ _⟩, rfl, cur, HG.out, rfl, fun k hk => ?_⟩
    rw [HC.out k hk, if_neg (by omega)]
  case round =>
  clear HG HC
  obtain ⟨i, rfl, rfl, hi, hkg, hsz, cur', hblk, hcs, hcc⟩ := hrel
  by_cases hlt : i + i < n - 1
  · have hj : (n : Int) - 1 - i = ((n - 1 - i : Nat) : Int) := by omega
    have ci := hblk.cell (hcc i (by omega))
    have cj := hblk.cell (hcc (n - 1 - i) (by omega))
    rw [if_neg (by omega)] at ci cj
    have fi := hblk.frozen i
    have fj := hblk.frozen (n - 1 - i)
    have hgl := hblk.lt
    have hltI : (i : Int) < (n : Int) - 1 - i := by omega
    have HB := Lib.hid hblk
    have HCC := Lib.hid hcc
    have HKG := Lib.hid hkg
    have HCS := Lib.hid hcs
    have HSZ := Lib.hid hsz
    clear hblk hcc hkg hcs hsz
    rw [hj]
    have hlt2 : i < n - 1 - i := by omega
    have hij : i ≠ n - 1 - i := by omega
    clear hj
    go_upto_region 3 with (fail)
    refine mixB_start [13, 14, 15] (Cls wr) (by kernel_rfl) (Cls.of ((Below.refl _ _).drew)) (fun hCw => ?_)
    refine mixB_flt (by kernel_rfl) [0, 1, 2, 3, 4, 5, 6, 7, 8, 9, 10, 11, 12] 3 _ _ hCw (by kernel_rfl) ?_
    simp only [opsAt, List.map_cons, List.map_nil, List.toList_toArray, List.getD_cons_succ, List.getD_cons_zero]
    unfold Cls
    repeat (go_big_quiet_step (fail))
    refine wpQuiet_nil ?_
    (try rw [← Cls_def])
    refine mixB_end [13, 14, 15] (by kernel_rfl) ?_
    simp only [opsAt, List.map_cons, List.map_nil, List.toList_toArray, List.getD_cons_succ, List.getD_cons_zero]
    go_wp2
    refine Calm.normal ?_
    go_wp2
    have hb2 := (HB.out.set i (.bool (l[n - 1 - i]?.getD false))).set (n - 1 - i) (.bool (l[i]?.getD false))
    refine ⟨⟨i + 1, by go_num, by rw [show (((n - 1 - i : Nat) : Int) - 1) = (n : Int) - 1 - ((i + 1 : Nat) : Int) by omega], by omega, ⟨((HKG.out.1.trans (KeptG.set g i wr _)).trans (KeptG.set g (n - 1 - i) _ _)).drew, (below_set (below_set HKG.out.2 (Nat.le_refl _)) (Nat.le_refl _)).drew⟩, ?_, _, hb2.drew, by rw [Array.size_setIfInBounds, Array.size_setIfInBounds]; exact HCS.out, fun k hk => ?_⟩, by simp [intOf]; omega⟩
    · rw [← HSZ.out]; simp
    · have his : i < cur'.size := by
        rcases Nat.lt_or_ge i cur'.size with h | h
        · exact h
        · have := HCC.out i (by omega); rw [Array.getElem?_eq_none h] at this; cases this
      have hjs : n - 1 - i < cur'.size := by
        rcases Nat.lt_or_ge (n - 1 - i) cur'.size with h | h
        · exact h
        · have := HCC.out (n - 1 - i) (by omega); rw [Array.getElem?_eq_none h] at this; cases this
      by_cases hkj : n - 1 - i = k
      · subst hkj
        rw [Array.getElem?_setIfInBounds_self_of_lt (by rw [Array.size_setIfInBounds]; exact hjs), if_pos (by omega), show n - 1 - (n - 1 - i) = i by omega, List.getD_eq_getElem?_getD]
      · rw [Array.getElem?_setIfInBounds_ne hkj]
        by_cases hki : i = k
        · subst hki
          rw [Array.getElem?_setIfInBounds_self_of_lt his, if_pos (by omega), List.getD_eq_getElem?_getD]
        · rw [Array.getElem?_setIfInBounds_ne hki, HCC.out k hk]
          by_cases h1 : k < i ∨ n - 1 < k + i
          · rw [if_pos h1, if_pos (by omega)]
          · rw [if_neg h1, if_neg (by omega)]
  · have hge : (n : Int) - 1 - i ≤ (i : Int) := by omega
    have HB := Lib.hid hblk
    have HCC := Lib.hid hcc
    have HKG := Lib.hid hkg
    have HCS := Lib.hid hcs
    have HSZ := Lib.hid hsz
    clear hblk hcc hkg hcs hsz
    go_wp2
    go_end0
    refine ⟨rfl, HKG.out, HSZ.out, cur', HB.out, HCS.out, fun k hk => ?_⟩
    rw [HCC.out k hk]
    by_cases h1 : k < i ∨ n - 1 < k + i
    · rw [if_pos h1]
    · rw [if_neg h1, show n - 1 - k = k by omega]
/-- The same of a row that the call owns. -/
theorem revb_any (B : Nat) (l : List Bool) (v : Value) (w : World) (h : w.ownsRow B 4 1 v l.length (bools l)) (hn : l.length ≤ 1099511627776) :
    Calls Tryd.prog 67 #[v] w fun e' w' => e' = .returned (.tuple #[]) ∧ w'.ownsRow B 4 1 v l.length (bools l.reverse) ∧ Below B w w' ∧ ∀ b, b < w.heap.size → v.ownBlock ≠ some b → w'.heap[b]? = w.heap[b]? := by
  rcases h.2 with ⟨rfl, h0⟩ | ⟨g, cap, cur, rfl, hb, hg, hnc, hcm, hcs, hx⟩
  · obtain rfl : l = [] := List.eq_nil_of_length_eq_zero h0
    have H := Lib.hid h
    clear h
    go_enter Tryd.func67, Tryd.ntmps67
    go_wp2
    go_loop [2, 3] (fun a b => a = .int .i64 0 ∧ b = .int .i64 (-1)) (fun _ _ => 0)
    case atStart => exact ⟨rfl, rfl⟩
    case round =>
    obtain ⟨rfl, rfl⟩ := hrel
    go_wp2
    go_end0
    exact ⟨rfl, H.out, Below.refl _ _, fun _ _ _ => rfl⟩
  · refine (revb_blk g l.length cap l cur w rfl hn hg (fun k hk => ?_)).mono ?_
    · have h1 : (cur.toList.take (l.length * 1))[k]? = (bools l)[k]? := by rw [hx]
      rw [List.getElem?_take, if_pos (by omega), Array.getElem?_toList] at h1
      rw [h1, bools, List.getElem?_map, List.getElem?_eq_getElem hk]
      simp [List.getD_eq_getElem?_getD, hk]
    · rintro e' w' ⟨rfl, hk, hsz, cur', hg', hcs', hcc⟩
      refine ⟨rfl, ⟨by simp [bools], .inr ⟨g, cap, cur', rfl, hb, hg', hnc, hcm, by omega, ?_⟩⟩, ?_, fun b hb' hne => hk.1.2 b hb' (fun e => hne (by rw [e]; rfl))⟩
      · apply List.ext_getElem?
        intro k
        rw [List.getElem?_take]
        by_cases hkn : k < l.length
        · rw [if_pos (by omega), Array.getElem?_toList, hcc k hkn, bools, List.getElem?_map, List.getElem?_reverse (by omega)]
          simp [List.getD_eq_getElem?_getD, show l.length - 1 - k < l.length by omega]
        · rw [if_neg (by omega), bools, List.getElem?_map, List.getElem?_eq_none (by simp; omega)]
          rfl
      · exact hk.2.mono hb
end Go.Proofs.YtfnlehnhcekpkaaDoor
