/- merkle.Add. Conditions: peaks' texts and the text no longer than 2^40 bytes; the tables read as the texts lay them. -/
import Derived.Test.YtfnlehnhcekpkaaDoorMkV
set_option linter.unusedVariables false
set_option linter.unusedSimpArgs false
namespace Go.Proofs.YtfnlehnhcekpkaaDoor
open Go Go.RowKit Go.BigFrame Go.Shelf
set_option maxRecDepth 100000
attribute [local go_sem] Oper.semAt_some

theorem tzF_le : ∀ (f n : Nat), n < 2 ^ f → tzF f n ≤ onesF f n
  | 0, n, h => Nat.le_refl _
  | f + 1, n, h => by
    rw [Nat.pow_succ] at h
    rw [tzF, onesF]
    have := tzF_le f (n / 2) (by omega)
    by_cases h2 : n % 2 = 1
    · rw [if_pos h2]; omega
    · rw [if_neg h2]; omega
theorem tzF_fuel : ∀ (f g n : Nat), n < 2 ^ f → n < 2 ^ g → tzF f n = tzF g n
  | 0, 0, n, h, h' => rfl
  | 0, g + 1, n, h, h' => by
    obtain rfl : n = 0 := by simpa using h
    rfl
  | f + 1, 0, n, h, h' => by
    obtain rfl : n = 0 := by simpa using h'
    rfl
  | f + 1, g + 1, n, h, h' => by
    rw [Nat.pow_succ] at h h'
    rw [tzF, tzF, tzF_fuel f g (n / 2) (by omega) (by omega)]
theorem tzN_le {c : Nat} (h : c ≤ 1024) : tzN c ≤ onesN c := by
  unfold tzN onesN
  rw [tzF_fuel 64 12 c (by omega) (by omega)]
  exact tzF_le 12 c (by omega)
theorem addr_add (g o k : Nat) : (⟨g, o, none⟩ : Addr).add k = ⟨g, o + k, none⟩ := by unfold Addr.add; split <;> simp_all
theorem hasS_dropO {S : Nat → Prop} {w : World} {p : Option Addr} {l : List (List UInt8)} (h : HasS S w p l) (k : Nat) : HasS (fun x => x < w.heap.size) w (p.map fun x => x.add k) (l.drop k) := fun i hi => by
  rw [List.length_drop] at hi
  obtain ⟨g, o, rfl, h2, h3, h4⟩ := h (k + i) (by omega)
  refine ⟨g, o + k, by rw [Option.map_some, addr_add], h3, h3, ?_⟩
  rw [List.getElem_drop, show o + k + i = o + (k + i) by omega]
  exact h4
theorem not_u64 (k : Nat) (h : k ≤ 1024) : bits BinOp.xor IntKind.u64 (if IntKind.u64.signed = true then -1 else IntKind.u64.max) (k : Int) = ((18446744073709551615 - k : Nat) : Int) := by
  have h1 : (BitVec.ofInt 64 (k : Int)).toNat = k := by
    rw [BitVec.ofInt_natCast, BitVec.toNat_ofNat]; exact Nat.mod_eq_of_lt (by omega)
  have h2 : BitVec.ofInt 64 (if IntKind.u64.signed = true then -1 else IntKind.u64.max) = BitVec.allOnes 64 := by decide
  show IntKind.u64.wrap ((BitVec.ofInt 64 (if IntKind.u64.signed = true then -1 else IntKind.u64.max) ^^^ BitVec.ofInt 64 (k : Int)).toNat : Int) = _
  rw [h2, BitVec.allOnes_xor, BitVec.toNat_not, h1, IntKind.wrap_u64]
  omega
theorem TzT.ext {w w' : World} (hb : Below w.heap.size w w') (h : TzT w) (hg : 1 < w.heap.size) : TzT w' := fun j hj => (hb.cell (p := ⟨1, j, none⟩) hg).trans (h j hj)
theorem onesF_le : ∀ (f n : Nat), onesF f n ≤ f
  | 0, n => Nat.le_refl _
  | f + 1, n => by
    have := onesF_le f (n / 2)
    rw [onesF]
    omega
theorem add_end {w W W2 : World} {D n : Nat} {v : Value} {xs : List Value} {z : Int} (hR : IsBlk W2 (w.heap.size + 1) #[.int .i64 0, .slice none 0 0] 24) (hb : Below W.heap.size W W2) (hK : W.heap[D]? = some (.deferred (some []))) (hD : w.heap.size + 1 < D) (hDW : D < W.heap.size) (hbW : Below w.heap.size w W) (hRW : w.heap.size + 1 < W.heap.size)
    (ho : W2.ownsRow w.heap.size 9 1 v n xs) :
    ((W2.setCell ⟨w.heap.size + 1, 0, none⟩ (.int .i64 z)).setCell ⟨w.heap.size + 1, 1, none⟩ v).heap[D]? = some (.deferred (some [])) ∧
    IsBlk (((W2.setCell ⟨w.heap.size + 1, 0, none⟩ (.int .i64 z)).setCell ⟨w.heap.size + 1, 1, none⟩ v).putObj D (.deferred none)) (w.heap.size + 1) #[.int .i64 z, v] 24 ∧
    (((W2.setCell ⟨w.heap.size + 1, 0, none⟩ (.int .i64 z)).setCell ⟨w.heap.size + 1, 1, none⟩ v).putObj D (.deferred none)).ownsRow w.heap.size 9 1 v n xs ∧
    Below w.heap.size w (((W2.setCell ⟨w.heap.size + 1, 0, none⟩ (.int .i64 z)).setCell ⟨w.heap.size + 1, 1, none⟩ v).putObj D (.deferred none)) := by
  have h2 : W2.heap[D]? = some (.deferred (some [])) := (hb.block D hDW).trans hK
  have hW2 : Below w.heap.size w W2 := hbW.trans (hb.mono (by omega))
  have h3 : ((W2.setCell ⟨w.heap.size + 1, 0, none⟩ (.int .i64 z)).setCell ⟨w.heap.size + 1, 1, none⟩ v).heap[D]? = some (.deferred (some [])) := by
    have hne : D ≠ w.heap.size + 1 := by omega
    rw [Below.heap_setCell _ _ _ _ hne, Below.heap_setCell _ _ _ _ hne]
    exact h2
  have h4 : IsBlk ((W2.setCell ⟨w.heap.size + 1, 0, none⟩ (.int .i64 z)).setCell ⟨w.heap.size + 1, 1, none⟩ v) (w.heap.size + 1) #[.int .i64 z, v] 24 := by simpa using (hR.set 0 (.int .i64 z)).set 1 v
  have hne1 := own_ne ho hR (by decide)
  have hne2 : v.ownBlock ≠ some D := by
    rcases ho.2 with ⟨rfl, _⟩ | ⟨g', cap', cur, rfl, _, q, _⟩
    · intro e; cases e
    · intro e
      obtain rfl : g' = D := Option.some.inj e
      rw [h2] at q
      cases q
  refine ⟨h3, (World.putObj_heap_other (by omega)).trans h4, own_other ho (fun q hq => ?_), ?_⟩
  · have n1 : q ≠ w.heap.size + 1 := fun e => hne1 (e ▸ hq)
    have n2 : q ≠ D := fun e => hne2 (e ▸ hq)
    rw [World.putObj_heap_other n2, Below.heap_setCell _ _ _ _ n1, Below.heap_setCell _ _ _ _ n1]
  · have h5 : Below w.heap.size w ((W2.setCell ⟨w.heap.size + 1, 0, none⟩ (.int .i64 z)).setCell ⟨w.heap.size + 1, 1, none⟩ v) := below_set (below_set hW2 (by omega)) (by omega)
    exact h5.trans (belowK_b (w := w) (Nat.le_refl _) _ D _ _ (by omega) h3 rfl rfl)
/-- The peaks of a text more. -/
def addL (c : Nat) (tops : List (List UInt8)) (s : List UInt8) : List (List UInt8) := tops.take (tops.length - tzN c) ++ [foldT (leafL s) (tops.drop (tops.length - tzN c))]
def addE (c : Int) (tops : List (List UInt8)) : Int := if peaksB c tops = false then 6 else if c = 1024 then 3 else 0
def addC (c : Int) (tops : List (List UInt8)) : Int := if peaksB c tops = false then 0 else if c = 1024 then 0 else c + 1
def addT (c : Int) (tops : List (List UInt8)) (s : List UInt8) : List (List UInt8) := if peaksB c tops = false then [] else if c = 1024 then [] else addL c.toNat tops s
def AddPost (c : Int) (tops : List (List UInt8)) (s : List UInt8) (w : World) (e' : Ending) (w' : World) : Prop :=
  ∃ v, e' = .returned (.tuple #[.agg #[.int .i64 (addC c tops), v], .int .i64 (addE c tops)]) ∧ w'.ownsRow w.heap.size 9 1 v (addT c tops s).length (strsV (addT c tops s)) ∧ Below w.heap.size w w'
set_option maxHeartbeats 8000000 in
theorem add_any (c : Int) (tops : List (List UInt8)) (s : List UInt8) (S : Nat → Prop) (p : Option Addr) (cap : Nat) (w : World) (hK : Ks w) (hT : TzT w) (htg : 1 < w.heap.size) (hsl : s.length ≤ 1099511627776) (hcap : tops.length ≤ cap) (hs : HasS S w p tops) (hn : tops.length ≤ 1099511627776) (hts : ∀ s ∈ tops, s.length ≤ 1099511627776) :
    Calls Tryd.prog 11 #[.agg #[.int .i64 c, .slice p tops.length cap], .string (bs s)] w (AddPost c tops s w) := by
  have hW : IsBlk ((w.alloc (.cells #[.int .i64 c, .slice p tops.length cap] 24)).alloc (.cells #[.int .i64 0, .slice none 0 0] 24)) w.heap.size #[.int .i64 c, .slice p tops.length cap] 24 := (IsBlk.new _ _ _).alloc _
  have hW' : IsBlk ((w.alloc (.cells #[.int .i64 c, .slice p tops.length cap] 24)).alloc (.cells #[.int .i64 0, .slice none 0 0] 24)) (w.heap.size + 1) #[.int .i64 0, .slice none 0 0] 24 := IsBlk.new_at (by simp)
  have hbw : Below w.heap.size w ((w.alloc (.cells #[.int .i64 c, .slice p tops.length cap] 24)).alloc (.cells #[.int .i64 0, .slice none 0 0] 24)) := ((Below.refl _ _).alloc (Nat.le_refl _) _).alloc (by simp) _
  have HR := Lib.hid (peaks_any c tops S p cap _ (hs.ext hbw) hn hts)
  have HS := Lib.hid hs
  have HK := Lib.hid hK
  have HT := Lib.hid hT
  obtain ⟨n, hnl⟩ : ∃ n, n = tops.length := ⟨_, rfl⟩
  rw [← hnl] at hW hW' hbw HR hcap hn ⊢
  have HN := Lib.hid hnl
  have HW := Lib.hid hW
  have HW' := Lib.hid hW'
  have HBW := Lib.hid hbw
  clear hs hK hts hnl hW hbw hW' hT
  unfold AddPost addE addC addT
  obtain ⟨B, hB⟩ : ∃ B, B = peaksB c tops := ⟨_, rfl⟩
  rw [← hB] at HR ⊢
  have HB := Lib.hid hB
  clear hB
  refine calls_of_marks Tryd.func11 rfl ?_
  simp only [Tryd.ntmps11, List.size_toArray, List.length_cons, List.length_nil, Nat.reduceAdd, Nat.reduceSub, Array.replicate_succ, Array.replicate_zero, List.push_toArray, List.append_toArray, List.nil_append, List.cons_append]
  go_wp2_with fail
  go_at_call 29
  refine HR.out.mono ?_
  rintro e' w2 ⟨rfl, hb2⟩
  have HB2 := Lib.hid (HBW.out.trans (hb2.mono HBW.out.size))
  have hW2 := HW.out.ext hb2
  have hW3 := HW'.out.ext hb2
  have x0 := hW2.cell (i := 0) rfl
  have x1 := hW2.cell (i := 1) rfl
  have y0 := hW3.cell (i := 0) rfl
  have y1 := hW3.cell (i := 1) rfl
  have f0 := hW3.frozen 0
  have f1 := hW3.frozen 1
  have HW2 := Lib.hid hW2
  have HW3 := Lib.hid hW3
  clear hb2 hW2 hW3
  have hnil : ∀ w', Below w.heap.size w w' → IsBlk w' (w.heap.size + 1) #[.int .i64 0, .slice none 0 0] 24 → Below w.heap.size w ((w'.setCell ⟨w.heap.size + 1, 0, none⟩ (.int .i64 0)).setCell ⟨w.heap.size + 1, 1, none⟩ (.slice none 0 0)) ∧ IsBlk ((w'.setCell ⟨w.heap.size + 1, 0, none⟩ (.int .i64 0)).setCell ⟨w.heap.size + 1, 1, none⟩ (.slice none 0 0)) (w.heap.size + 1) #[.int .i64 0, .slice none 0 0] 24 := fun w' hb hg =>
    ⟨below_set (below_set hb (by omega)) (by omega), by simpa using (hg.set 0 (.int .i64 0)).set 1 (.slice none 0 0)⟩
  have HNIL := Lib.hid hnil
  clear hnil
  cases B
  · go_wp2
    exact marks_ret (results_ct rfl rfl (HNIL.out _ HB2.out HW3.out).2 Tryd.underlying24 rfl (by kernel_rfl) rfl) rfl ⟨_, rfl, World.ownsRow_nil _ _ _ _, (HNIL.out _ HB2.out HW3.out).1⟩
  by_cases h0 : c = 1024
  · subst h0
    go_wp2
    exact marks_ret (results_ct rfl rfl (HNIL.out _ HB2.out HW3.out).2 Tryd.underlying24 rfl (by kernel_rfl) rfl) rfl ⟨_, rfl, World.ownsRow_nil _ _ _ _, (HNIL.out _ HB2.out HW3.out).1⟩
  have q0 : (c == 1024) = false := by rw [beq_eq_false_iff_ne]; exact h0
  have hpk : peaksB c tops = true := HB.out.symm
  unfold peaksB at hpk
  simp only [Bool.and_eq_true, decide_eq_true_eq] at hpk
  obtain ⟨hc0, hc1, hlen, hdig⟩ := hpk
  obtain ⟨k, rfl⟩ : ∃ k : Nat, c = (k : Int) := ⟨c.toNat, by omega⟩
  rw [Int.toNat_natCast] at hlen
  have hk : k < 1024 := by omega
  have hlen' := hlen
  obtain ⟨zs, hzs⟩ := of_dig32 tops hdig
  have htz := tzN_le (c := k) (by omega)
  rw [← hlen, ← HN.out] at htz
  obtain ⟨tz, htzd⟩ : ∃ tz, tz = tzN k := ⟨_, rfl⟩
  rw [← htzd] at htz
  have HTZ := Lib.hid htzd
  have HZS := Lib.hid hzs
  have hlt2 := HW2.out.lt
  have hlt3 := HW3.out.lt
  have hll := leafL_length s
  have hsz2 := HB2.out.size
  have hn12 : n ≤ 12 := by rw [HN.out, hlen]; exact onesF_le 12 k
  obtain ⟨kp, rfl⟩ : ∃ kp, n = kp + tz := ⟨n - tz, by omega⟩
  clear hlen hlen' hdig h0 htzd hzs hc0 hc1
  go_wp2_with fail
  go_at_call 30
  refine (leaf_any s w2 (HK.out.ext HB2.out) hsl).mono ?_
  rintro e' w3 ⟨rfl, hb3⟩
  obtain ⟨x, hx⟩ : ∃ x, x = leafL s := ⟨_, rfl⟩
  rw [← hx] at hll ⊢
  have HX := Lib.hid hx
  have hb23 := HB2.out.trans (hb3.mono hsz2)
  have HB3 := Lib.hid hb23
  have HW2' := Lib.hid (HW2.out.ext hb3)
  have HW3' := Lib.hid (HW3.out.ext hb3)
  have hsz3 := hb23.size
  have hq3 : w.heap.size + 1 < w3.heap.size := by have := hb3.size; omega
  have hbx : Below w3.heap.size w3 (w3.alloc (.cells #[.string (bs x)] 9)) := (Below.refl _ _).alloc (Nat.le_refl _) _
  have hX4 : IsBlk (w3.alloc (.cells #[.string (bs x)] 9)) w3.heap.size #[.string (bs x)] 9 := IsBlk.new _ _ _
  have HBX := Lib.hid hbx
  have HX4 := Lib.hid hX4
  clear hx hb3 hb23 x0 x1 y0 y1 f0 f1 hbx hX4 hlt2 hlt3
  go_upto_region 6 with (fail)
  generalize hW4 : World.alloc w3 _ = w4 at HBX HX4
  clear hW4
  have hP4 := HW2'.out.ext HBX.out
  have x0 := hP4.cell (i := 0) rfl
  have x1 := hP4.cell (i := 1) rfl
  have hlt4 := hP4.lt
  have HP4 := Lib.hid hP4
  have HR4 := Lib.hid (HW3'.out.ext HBX.out)
  have HB4 := Lib.hid (HB3.out.trans (HBX.out.mono hsz3))
  have hsz4 := HBX.out.size
  have ht4 : 1 < w.heap.size := htg
  clear hP4
  refine mixB_start [] (Cls w4) (by kernel_rfl) (Cls.of ((Below.refl _ _).drew)) (fun hCw => ?_)
  refine mixB_flt (by kernel_rfl) [0, 1, 2, 3, 4, 5, 6] 3 _ _ hCw (by kernel_rfl) ?_
  simp only [opsAt, List.map_cons, List.map_nil, List.toList_toArray, List.getD_cons_succ, List.getD_cons_zero]
  unfold Cls
  repeat (go_big_quiet_step (fail))
  refine wpQuiet_nil ?_
  (try rw [← Cls_def])
  refine mixB_ch (i := 7) (fuel := 2) (by kernel_rfl) (by kernel_rfl) ?_
  simp only [opsAt, List.map_cons, List.map_nil, List.toList_toArray, List.getD_cons_succ, List.getD_cons_zero]
  go_wp2_with (go_at_call 31; rw [not_u64 k (by omega)]; refine (tz_any k (by omega) w4.drew (TzT.ext (HB4.out.drew) HT.out htg)).mono ?_; rintro e' w5 ⟨he, rfl⟩; rw [← HTZ.out] at he; subst he)
  refine ThenB.mk (hCw) (fun hCw => ?_)
  refine mixB_flt (by kernel_rfl) [8, 9] 0 _ _ hCw (by kernel_rfl) ?_
  simp only [opsAt, List.map_cons, List.map_nil, List.toList_toArray, List.getD_cons_succ, List.getD_cons_zero]
  unfold Cls
  repeat (go_big_quiet_step (fail))
  refine wpQuiet_nil ?_
  (try rw [← Cls_def])
  refine mixB_end [] (by kernel_rfl) ?_
  refine wpList_nil ?_
  refine Calm.normal ?_
  have hkc : (kp : Int) ≤ (cap : Int) := by omega
  go_upto_region 7 with (fail)
  go_cut [33] from 29 to 33 (fun v wx => v = .func (.func 55) #[] #[.pointer (some ⟨w4.heap.size, 0, none⟩)] ∧ (∃ p' c', IsBlk wx w4.heap.size #[.slice p' tz c'] 22 ∧ HasS (fun x => x < w.heap.size) w p' (tops.drop kp)) ∧ wx.heap.size = w4.heap.size + 1 ∧ Below w4.heap.size w4 wx)
  case first =>
    have hrow : ∀ p' c', IsBlk (w4.drew.alloc (.cells #[.slice p' tz c'] 22)) w4.heap.size #[.slice p' tz c'] 22 ∧ (w4.drew.alloc (.cells #[.slice p' tz c'] 22)).heap.size = w4.heap.size + 1 ∧ Below w4.heap.size w4 (w4.drew.alloc (.cells #[.slice p' tz c'] 22)) := fun p' c' => ⟨IsBlk.new _ _ _, by simp, ((Below.refl _ _).drew).alloc (Nat.le_refl _) _⟩
    have HROW := Lib.hid hrow
    clear hrow
    go_wp2_with fail
    · go_at_call 32
      refine ((callsIn_wide (n := 8)).1 (back_in Fence.wide 8 trivial rfl _ _ _ _)).mono ?_
      rintro e' w6 ⟨rfl, rfl⟩
      go_wp2
      have hck : cap = kp := by omega
      subst hck
      go_meet
      refine ⟨rfl, ⟨_, _, (HROW.out _ _).1, fun i hi => ?_⟩, (HROW.out _ _).2.1, (HROW.out _ _).2.2⟩
      rw [List.length_drop, ← HN.out] at hi
      omega
    · go_at_call 32
      refine ((callsIn_wide (n := 8)).1 (back_in Fence.wide 8 trivial rfl _ _ _ _)).mono ?_
      rintro e' w6 ⟨rfl, rfl⟩
      go_wp2
      go_meet
      exact ⟨rfl, ⟨_, _, (HROW.out _ _).1, hasS_dropO HS.out kp⟩, (HROW.out _ _).2.1, (HROW.out _ _).2.2⟩
  case rest =>
    obtain ⟨rfl, ⟨p', c', hbk, hsd⟩, hszl, hb4l⟩ := hcut
    have hszw := (HB4.out.trans (hb4l.mono (by omega))).size
    have hbl : Below w.heap.size w wc := HB4.out.trans (hb4l.mono (by omega))
    have hXc := HX4.out.ext hb4l
    have hPc := HP4.out.ext hb4l
    have hRc := HR4.out.ext hb4l
    have hxl3 := HX4.out.lt
    have hzs := HZS.out
    have hzl : zs.length = kp + tz := by rw [HN.out, ← hzs, List.length_map]
    have hzd : (zs.drop kp).length = tz := by rw [List.length_drop]; omega
    have hSd : HasS (fun x => x < wc.heap.size ∧ x ≠ w3.heap.size) wc p' ((zs.drop kp).map (·.1)) := by
      rw [List.map_drop, hzs]
      exact hsd.ext_to (fun b hb => (⟨by omega, by omega⟩ : b < wc.heap.size ∧ b ≠ w3.heap.size)) (fun b hb hlt => hbl.block b hlt)
    have HSD := Lib.hid hSd
    have HBL := Lib.hid hbl
    have HPC := Lib.hid hPc
    have HRC := Lib.hid hRc
    have HXC := Lib.hid hXc
    have HBK := Lib.hid hbk
    clear x0 x1 hlt4 hSd hbl hPc hRc hXc hbk hsd hzs hb4l
    go_wp2_with fail
    refine (wpIn_wide (n := 8)).1 ?_
    refine wpIn_rangeFunc_ownF (F := Fence.wide) rfl (by omega) (gf := 55) (lb := #[.pointer (some ⟨w4.heap.size, 0, none⟩)]) rfl trivial (enters_of Tryd.func55 (by kernel_rfl) rfl)
      (back_stops Fence.wide (8 - 1) trivial rfl (by omega) w4.heap.size wc.heap.size w3.heap.size p' c' (zs.drop kp) (by omega) (by omega) (by omega) wc (Nat.le_refl _) (by rw [hzd]; exact HBK.out.cell rfl) HSD.out) KeptN.trans (fun W l o o' hl h _ _ => KeptN.put W l o o' hl h) (Below.refl _ _) (fun _ => rfl)
      (fun pre W => ((W.cell? ⟨w3.heap.size, 0, none⟩ = some (.string (bs (foldN x pre))) ∧ W.frozen? ⟨w3.heap.size, 0, none⟩ = false) ∧ Below w.heap.size wc W) ∧ KeptN wc.heap.size w3.heap.size wc W)
      (fun _ _ _ => False)
      (OwnFrom.and (OwnFrom.and (Own.from (fun s A B row hs hg hr => ⟨cell_kept hs.1 hg hr, (frozen_kept hs.1 hg hr).trans hs.2⟩) _) (ownFrom_below hszw hszw)) (fun _ W W' row hs hg hr => ⟨Nat.le_trans hs.1 hg.size, fun b hb hne => (hg.block b (Nat.lt_of_lt_of_le hb hs.1) (fun e => by have := (hr b e.symm).1; omega)).trans (hs.2 b hb hne)⟩))
      (fun _ _ _ _ _ hs _ _ => hs)
      ⟨⟨⟨HXC.out.cell rfl, HXC.out.frozen 0⟩, Below.refl _ _⟩, KeptN.refl _ _ _⟩
      (fun y => { tmps := #[Value.agg #[Value.int IntKind.i64 ↑k, Value.slice p (kp + tz) cap], Value.string (bs s),
             Value.pointer (some ⟨w.heap.size, 0, none⟩), undef,
             Value.pointer (some ⟨w.heap.size + 1, 0, none⟩), Value.int IntKind.i64 0,
             Value.pointer (some ⟨w3.heap.size, 0, none⟩), Value.int IntKind.i64 ↑kp, undef, Value.string (bs y.2.1),
             Value.agg #[Value.int IntKind.i64 ↑k, Value.slice p (kp + tz) cap], Value.bool true, Value.bool false, undef,
             Value.pointer (some ⟨w.heap.size, 0, none⟩), Value.int IntKind.i64 ↑k, Value.bool false, undef,
             Value.string (bs s), Value.string (bs x), Value.pointer (some ⟨w.heap.size, 1, none⟩),
             Value.slice p (kp + tz) cap, Value.int IntKind.i64 (↑kp + ↑tz),
             Value.pointer (some ⟨w.heap.size, 0, none⟩), Value.int IntKind.i64 ↑k, Value.int IntKind.u64 ↑k,
             Value.int IntKind.u64 ↑(18446744073709551615 - k), Value.int IntKind.i64 ↑tz, Value.int IntKind.i64 ↑kp, u29,
             u30, u31, u32, Value.func (Fn.func 55) #[] #[Value.pointer (some ⟨w4.heap.size, 0, none⟩)], Value.int IntKind.i64 (y.1 : Int), Value.string (bs y.2.1),
             undef, undef, undef, undef, undef, undef, undef, undef, undef, undef, undef, undef, undef, undef,
             undef], defers := [] }) ?assign ?body ?done ?stop
    case assign =>
      intro l y W K hK
      simp only [encB]
      gi_wp2
      exact hK
    case body =>
      rintro l pre y W ⟨⟨⟨hc, hf⟩, hB⟩, hkN⟩ _
      have hKW : Ks W := HK.out.ext (HBL.out.trans hB)
      have hfl := foldN_length hll pre
      have hyl := y.2.2
      have hszB := hB.size
      have hWl : w3.heap.size < W.heap.size := by omega
      have HF := Lib.hid (⟨hc, hf⟩ : W.cell? ⟨w3.heap.size, 0, none⟩ = some (.string (bs (foldN x pre))) ∧ W.frozen? ⟨w3.heap.size, 0, none⟩ = false)
      gi_wp2_with (refine ⟨trivial, ?_⟩; gi_at_call 33; refine (CallsIn.inRound l (callsIn_wide.2 (node_any y.2.1 (foldN x pre) W hKW (by omega) (by omega)))).mono ?_; rintro e W1 ⟨rfl, hb⟩; have hc1 := (hb.cell (p := ⟨w3.heap.size, 0, none⟩) hWl).trans HF.out.1; have hf1 := (hb.frozen (p := ⟨w3.heap.size, 0, none⟩) hWl).trans HF.out.2)
      have hkp : KeptN wc.heap.size w3.heap.size W (W1.setCell ⟨w3.heap.size, 0, none⟩ (.string (bs (nodeL y.2.1 (foldN x pre))))) := by
        refine ⟨by simpa using hb.size, fun b hbl hne => ?_⟩
        rw [Below.heap_setCell _ _ _ _ hne]
        exact hb.block b (by omega)
      refine ⟨(keepsOthers_below hb).trans (KeepsOthers.setCell _ _ _), hkp, ⟨⟨?_, ?_⟩, ?_⟩, hkN.trans hkp⟩
      · rw [foldN_snoc]
        exact World.cell?_setCell_same' _ _ _ (by rw [hc1]; rfl)
      · rw [World.frozen?_setCell]
        exact hf1
      · exact below_set (hB.trans (hb.mono (by omega))) hsz3
    case done =>
      rintro D ys W hD rfl ⟨⟨⟨hc, _⟩, hB⟩, hkN⟩ hK
      have hszB := hB.size
      have hPW : IsBlk W w.heap.size #[.int .i64 (k : Int), .slice p (kp + tz) cap] 24 := (hkN.2 _ HPC.out.lt (by omega)).trans HPC.out
      have hRW : IsBlk W (w.heap.size + 1) #[.int .i64 0, .slice none 0 0] 24 := (hkN.2 _ HRC.out.lt (by omega)).trans HRC.out
      have hfin : foldN x (uptoB (zs.drop kp) (zs.drop kp).length) = foldT (leafL s) (tops.drop kp) := by rw [foldN_all, List.map_drop, HZS.out, HX.out]
      rw [hfin] at hc
      obtain ⟨R, hR⟩ : ∃ R, R = foldT (leafL s) (tops.drop kp) := ⟨_, rfl⟩
      rw [← hR] at hc
      have hadd : addL k tops s = tops.take kp ++ [R] := by
        unfold addL
        rw [← HN.out, ← HTZ.out, Nat.add_sub_cancel, ← hR]
      have hbW : Below w.heap.size w W := HBL.out.trans hB
      have hHS : HasS S w p tops := HS.out
      have hlk : (tops.take kp).length = kp := by rw [List.length_take, ← HN.out]; omega
      have hcl : ∀ w', Below w.heap.size w w' → Calls Tryd.prog 34 #[.slice p kp cap] w' fun e w'' => ∃ v, e = .returned v ∧ w''.ownsRow w'.heap.size 9 1 v kp (strsV (tops.take kp)) ∧ Below w'.heap.size w' w'' := fun w' hb => by
        have h := clone_any (tops.take kp) S p cap w' ((hHS.take kp).ext hb) (by omega)
        rw [hlk] at h
        exact h
      have HADD := Lib.hid hadd
      have HCL := Lib.hid hcl
      have HBW' := Lib.hid hbW
      have HRW := Lib.hid hRW
      have HKD := Lib.hid hK
      have x0 := hPW.cell (i := 0) rfl
      have x1 := hPW.cell (i := 1) rfl
      have y0 := hRW.cell (i := 0) rfl
      have y1 := hRW.cell (i := 1) rfl
      have f0 := hRW.frozen 0
      have f1 := hRW.frozen 1
      have hPl := hPW.lt
      have hRl := hRW.lt
      have hXl := cell_lt' hc
      have hszW := hbW.size
      have hDl : D < W.heap.size := (Array.getElem?_eq_some_iff.1 hK).1
      clear hfin hR hadd hHS hcl hlk hB hkN hPW hRW hbW hK
      go_upto_region 10 with (fail)
      refine mixB_start [12, 13] (Cls W) (by kernel_rfl) (Cls.of ((Below.refl _ _).drew)) (fun hCw => ?_)
      refine mixB_flt (by kernel_rfl) [0, 1, 2, 3, 4, 5, 6, 8] 6 _ _ hCw (by kernel_rfl) ?_
      simp only [opsAt, List.map_cons, List.map_nil, List.toList_toArray, List.getD_cons_succ, List.getD_cons_zero]
      unfold Cls
      repeat (go_big_quiet_step (fail))
      refine wpQuiet_nil ?_
      (try rw [← Cls_def])
      refine mixB_br (i := 7) (j := 9) (fuel := 5) (by kernel_rfl) (by kernel_rfl) ?_ ?_
      · simp only [opsAt, List.map_cons, List.map_nil, List.toList_toArray, List.getD_cons_succ, List.getD_cons_zero]
        go_wp2_with (go_at_call 34; go_at_call 34; refine (HCL.out _ (HBW'.out.trans (hCw.below.mono hszW))).mono ?_; rintro e' w7 ⟨v7, rfl, ho7, hb7⟩)
        refine ThenB.mk (hCw.trans hb7) (fun hCw => ?_)
        refine mixB_ch (i := 9) (fuel := 4) (by kernel_rfl) (by kernel_rfl) ?_
        simp only [opsAt, List.map_cons, List.map_nil, List.toList_toArray, List.getD_cons_succ, List.getD_cons_zero]
        go_wp2_with (fail)
        refine ThenB.mk (hCw.trans ((Below.refl _ _).alloc (Nat.le_refl _) _)) (fun hCw => ?_)
        refine mixB_ch (i := 10) (fuel := 3) (by kernel_rfl) (by kernel_rfl) ?_
        simp only [opsAt, List.map_cons, List.map_nil, List.toList_toArray, List.getD_cons_succ, List.getD_cons_zero]
        at_builtin
        refine push_at W.heap.size rfl _ _ 22 9 (.string (bs [])) 16 rfl Tryd.underlying22 (by kernel_rfl) rfl (by decide) _ kp _ (own_base_le (own_alloc ho7 _) (Nat.le_refl _)) w7.heap.size 1 [.string (bs R)] (IsBlk.new _ _ _) rfl rfl rfl (by simp [Value.oneCell']) hCw.below.size (by omega) ?_
        intro v10 w10 ho10 hg10
        have HOWN := Lib.hid (own_base_le ho10 hszW)
        have hgr := below_grown hCw.below hg10 hCw.below.size (fun j hj => (ho7.lt j hj).1)
        obtain ⟨g10, cap10, rfl, _⟩ := own_open ho10 (by omega)
        go_wp2
        simp only [Act.put, List.setIfInBounds_toArray, List.set_cons_succ, List.set_cons_zero]
        refine ThenB.mk (Cls.of hgr) (fun hCw => ?_)
        refine mixB_flt (by kernel_rfl) [11] 2 _ _ hCw (by kernel_rfl) ?_
        simp only [opsAt, List.map_cons, List.map_nil, List.toList_toArray, List.getD_cons_succ, List.getD_cons_zero]
        unfold Cls
        repeat (go_big_quiet_step (fail))
        refine wpQuiet_nil ?_
        (try rw [← Cls_def])
        refine mixB_end [12, 13] (by kernel_rfl) ?_
        simp only [opsAt, List.map_cons, List.map_nil, List.toList_toArray, List.getD_cons_succ, List.getD_cons_zero]
        have hR10 := HRW.out.ext hgr
        clear y0 y1 f0 f1
        have y0 := hR10.cell (i := 0) rfl
        have y1 := hR10.cell (i := 1) rfl
        have f0 := hR10.frozen 0
        have f1 := hR10.frozen 1
        have hend := add_end (w := w) (W := W) (W2 := w10) (D := D) (n := kp + 1) (v := .slice (some ⟨g10, 0, none⟩) (kp + 1) cap10) (xs := strsV (tops.take kp) ++ [.string (bs R)]) (z := (k : Int) + 1) hR10 hgr HKD.out (by omega) (by omega) HBW'.out (by omega) HOWN.out
        have HEND := Lib.hid hend
        clear hend ho7 hb7 ho10 hg10 hgr hR10
        go_wp2
        refine Calm.normal ?_
        go_wp2
        refine marks_ret1 HEND.out.1 (results_ct rfl rfl HEND.out.2.1 Tryd.underlying24 rfl (by kernel_rfl) rfl) rfl ⟨.slice (some ⟨g10, 0, none⟩) (kp + 1) cap10, rfl, ?_, HEND.out.2.2.2⟩
        rw [HADD.out]; have h := HEND.out.2.2.1; rw [show strsV (tops.take kp ++ [R]) = strsV (tops.take kp) ++ [.string (bs R)] by simp [strsV], show (tops.take kp ++ [R]).length = kp + 1 by rw [List.length_append, List.length_take, ← HN.out]; simp]; exact h
      · simp only [opsAt, List.map_cons, List.map_nil, List.toList_toArray, List.getD_cons_succ, List.getD_cons_zero]
        go_wp2_with (fail)
        refine ThenB.mk (hCw.trans ((Below.refl _ _).alloc (Nat.le_refl _) _)) (fun hCw => ?_)
        refine mixB_ch (i := 7) (fuel := 4) (by kernel_rfl) (by kernel_rfl) ?_
        simp only [opsAt, List.map_cons, List.map_nil, List.toList_toArray, List.getD_cons_succ, List.getD_cons_zero]
        go_wp2_with (go_at_call 34; go_at_call 34; refine (HCL.out _ (HBW'.out.trans (hCw.below.mono hszW))).mono ?_; rintro e' w7 ⟨v7, rfl, ho7, hb7⟩)
        refine ThenB.mk (hCw.trans hb7) (fun hCw => ?_)
        refine mixB_ch (i := 10) (fuel := 3) (by kernel_rfl) (by kernel_rfl) ?_
        simp only [opsAt, List.map_cons, List.map_nil, List.toList_toArray, List.getD_cons_succ, List.getD_cons_zero]
        at_builtin
        refine push_at W.heap.size rfl _ _ 22 9 (.string (bs [])) 16 rfl Tryd.underlying22 (by kernel_rfl) rfl (by decide) _ kp _ (own_base_le ho7 (by simp)) W.heap.size 1 [.string (bs R)] (IsBlk.ext (IsBlk.drew (IsBlk.new _ _ _)) hb7) rfl rfl rfl (by simp [Value.oneCell']) hCw.below.size (by omega) ?_
        intro v10 w10 ho10 hg10
        have HOWN := Lib.hid (own_base_le ho10 hszW)
        have hgr := below_grown hCw.below hg10 hCw.below.size (fun j hj => ((own_base_le (B' := W.heap.size) ho7 (by simp)).lt j hj).1)
        obtain ⟨g10, cap10, rfl, _⟩ := own_open ho10 (by omega)
        go_wp2
        simp only [Act.put, List.setIfInBounds_toArray, List.set_cons_succ, List.set_cons_zero]
        refine ThenB.mk (Cls.of hgr) (fun hCw => ?_)
        refine mixB_flt (by kernel_rfl) [11] 2 _ _ hCw (by kernel_rfl) ?_
        simp only [opsAt, List.map_cons, List.map_nil, List.toList_toArray, List.getD_cons_succ, List.getD_cons_zero]
        unfold Cls
        repeat (go_big_quiet_step (fail))
        refine wpQuiet_nil ?_
        (try rw [← Cls_def])
        refine mixB_end [12, 13] (by kernel_rfl) ?_
        simp only [opsAt, List.map_cons, List.map_nil, List.toList_toArray, List.getD_cons_succ, List.getD_cons_zero]
        have hR10 := HRW.out.ext hgr
        clear y0 y1 f0 f1
        have y0 := hR10.cell (i := 0) rfl
        have y1 := hR10.cell (i := 1) rfl
        have f0 := hR10.frozen 0
        have f1 := hR10.frozen 1
        have hend := add_end (w := w) (W := W) (W2 := w10) (D := D) (n := kp + 1) (v := .slice (some ⟨g10, 0, none⟩) (kp + 1) cap10) (xs := strsV (tops.take kp) ++ [.string (bs R)]) (z := (k : Int) + 1) hR10 hgr HKD.out (by omega) (by omega) HBW'.out (by omega) HOWN.out
        have HEND := Lib.hid hend
        clear hend ho7 hb7 ho10 hg10 hgr hR10
        go_wp2
        refine Calm.normal ?_
        go_wp2
        refine marks_ret1 HEND.out.1 (results_ct rfl rfl HEND.out.2.1 Tryd.underlying24 rfl (by kernel_rfl) rfl) rfl ⟨.slice (some ⟨g10, 0, none⟩) (kp + 1) cap10, rfl, ?_, HEND.out.2.2.2⟩
        rw [HADD.out]; have h := HEND.out.2.2.1; rw [show strsV (tops.take kp ++ [R]) = strsV (tops.take kp) ++ [.string (bs R)] by simp [strsV], show (tops.take kp ++ [R]).length = kp + 1 by rw [List.length_append, List.length_take, ← HN.out]; simp]; exact h
    case stop =>
      rintro D c pre W _ _ h _
      exact h.elim
end Go.Proofs.YtfnlehnhcekpkaaDoor
