/- codicilref02.Copy: a value of its own memory. Condition: the value lies in memory. -/
import Derived.Test.YthcojmpigdojoaaDoorPutP
set_option linter.unusedVariables false
set_option linter.unusedSimpArgs false
namespace Go.Proofs.YthcojmpigdojoaaDoor
open Go Go.RowKit Go.BigFrame
set_option maxRecDepth 100000

def RCopyOk (a : DVal) : Prop := ∀ (S : Nat → Prop) (cs : List Value) (w : World), HasVal S w a cs →
  Calls Tryd.prog 15 #[.agg cs.toArray] w fun e' w' => ∃ cs', e' = .returned (.agg cs'.toArray) ∧ HasVal (fun b => w.heap.size ≤ b) w' a cs' ∧ OwnRows w.heap.size w' cs' a ∧ Below w.heap.size w w'
set_option maxHeartbeats 8000000 in
theorem rcopy_step (k : Nat) (b : Bool) (n : Int) (s : List UInt8) (l : List DVal) (f : List (List UInt8 × DVal)) (ihL : ∀ v ∈ l, RCopyOk v) (ihF : ∀ p ∈ f, RCopyOk p.2) : RCopyOk (.mk k b n s l f) := by
  intro S cs w hv
  obtain ⟨pl, cl, pf, cf, rfl, hbd, hL, hF⟩ := hasVal_mk.1 hv
  have hll := hbd.2.2.2.2.1
  have hlf := hbd.2.2.2.2.2.1
  show Calls Tryd.prog 15 #[.agg #[.int .u8 (k : Int), .bool b, .int .i64 n, .string (bs s), .slice pl l.length cl, .slice pf f.length cf]] w _
  have HBD := Lib.hid hbd
  have HIL := Lib.hid ihL
  have HIF := Lib.hid ihF
  have HL := Lib.hid hL
  have HF := Lib.hid hF
  clear hv hL hF hbd ihL ihF
  go_enter Tryd.func15, Tryd.ntmps15
  go_upto_region 3 with (fail)
  generalize hW0 : World.alloc (World.alloc (World.alloc w _) _) _ = W0
  have hd1 : IsBlk W0 w.heap.size #[.int .u8 (k : Int), .bool b, .int .i64 n, .string (bs s), .slice pl l.length cl, .slice pf f.length cf] 26 := by rw [← hW0]; exact ((IsBlk.new _ _ _).alloc _).alloc _
  have hd2 : IsBlk W0 (w.heap.size + 1) ([.int .u8 0, .bool false, .int .i64 0, .string (bs []), .slice none 0 0, .slice none 0 0] : List Value).toArray 26 := by rw [← hW0]; exact (IsBlk.new_at (by simp)).alloc _
  have hd3 : IsBlk W0 (w.heap.size + 1 + 1) #[.int .u8 (k : Int), .bool b, .int .i64 n, .string (bs s), .slice none 0 0, .slice none 0 0] 26 := by rw [← hW0]; exact IsBlk.new_at (by simp)
  have hb0 : Below w.heap.size w W0 := by rw [← hW0]; exact (((Below.refl _ _).alloc (Nat.le_refl _) _).alloc (by simp) _).alloc (by simp; omega) _
  have hlt3 : w.heap.size + 1 + 1 < W0.heap.size := hd3.lt
  have hsz0 : W0.heap.size = w.heap.size + 1 + 1 + 1 := by rw [← hW0]; simp
  clear hW0
  have c4 := hd1.cell (i := 4) rfl
  have hlt1 := hd1.lt
  have HD1 := Lib.hid hd1
  have HD2 := Lib.hid hd2
  have HD3 := Lib.hid hd3
  have HB0 := Lib.hid hb0
  have HS0 := Lib.hid hsz0
  clear hd1 hd2 hd3 hb0 hsz0
  go_wp2
  clear c4
  go_loopw [14] (fun i wr => ∃ (j : Nat) (v1 : Value), i = .int .i64 (j : Int) ∧ j ≤ l.length ∧ IsBlk wr (w.heap.size + 1 + 1) #[.int .u8 (k : Int), .bool b, .int .i64 n, .string (bs s), v1, .slice none 0 0] 26 ∧ Acc HasVal W0.heap.size 26 6 wr v1 (l.take j) ∧ IsBlk wr w.heap.size #[.int .u8 (k : Int), .bool b, .int .i64 n, .string (bs s), .slice pl l.length cl, .slice pf f.length cf] 26 ∧ IsBlk wr (w.heap.size + 1) ([.int .u8 0, .bool false, .int .i64 0, .string (bs []), .slice none 0 0, .slice none 0 0] : List Value).toArray 26 ∧ Below w.heap.size w wr ∧ W0.heap.size ≤ wr.heap.size) (fun i _ => l.length - (intOf i).toNat)
  case atStart => exact ⟨0, .slice none 0 0, rfl, Nat.zero_le _, HD3.out, Acc.nil _ _ _, HD1.out, HD2.out, HB0.out, Nat.le_refl _⟩
  case round =>
  clear HD1 HD2 HD3
  obtain ⟨j, v1, rfl, hj, hd3, hacc, hd1, hd2, hbw, hsr⟩ := hrel
  obtain ⟨q1, d1, rfl⟩ := hacc.slice
  have hjl : (l.take j).length = j := by rw [List.length_take]; omega
  rw [hjl] at hd3 hacc
  have HD1 := Lib.hid hd1
  have HD2 := Lib.hid hd2
  have HD3 := Lib.hid hd3
  have HAC := Lib.hid hacc
  have HBW := Lib.hid hbw
  have HJL := Lib.hid hjl
  have hlr3 := hd3.lt
  have hlr1 := hd1.lt
  have c4 := hd3.cell (i := 4) rfl
  have hown : ∀ z, (Value.slice q1 j d1).ownBlock = some z → W0.heap.size ≤ z ∧ z < wr.heap.size := hacc.lt
  have HOW := Lib.hid hown
  have hszw := hbw.size
  by_cases hlt : j < l.length
  · obtain ⟨g, o, cu, hp, hcu, hvu⟩ := (HL.out.ext hbw) j hlt
    have hok := HIL.out _ (List.getElem_mem hlt)
    generalize hu : l[j] = u at hvu hok
    have HV := Lib.hid hvu
    have HOK := Lib.hid hok
    have HU := Lib.hid hu
    obtain ⟨k1, b1, n1, s1, l1, f1⟩ := u
    obtain ⟨pl1, cl1, pf1, cf1, rfl, _⟩ := hasVal_mk.1 hvu
    obtain ⟨e0, e1, e2, e3, e4, e5⟩ := hcu.six
    have hgl := hcu.2.1
    subst hp
    clear hd1 hd2 hd3 hacc hbw hjl hown hvu hok hu hcu
    go_upto_region 6 with (fail)
    generalize hW5 : World.alloc wr _ = W5
    have hb5 : Below wr.heap.size wr W5 := by rw [← hW5]; exact (Below.refl _ _).alloc (Nat.le_refl _) _
    have hd5 : IsBlk W5 wr.heap.size #[.int .u8 (k1 : Int), .bool b1, .int .i64 n1, .string (bs s1), .slice pl1 l1.length cl1, .slice pf1 f1.length cf1] 26 := by rw [← hW5]; exact IsBlk.new _ _ _
    have hd35 := HD3.out.ext hb5
    clear e0 e1 e2 e3 e4 e5 c4
    have x0 := hd5.cell (i := 0) rfl
    have x1 := hd5.cell (i := 1) rfl
    have x2 := hd5.cell (i := 2) rfl
    have x3 := hd5.cell (i := 3) rfl
    have x4 := hd5.cell (i := 4) rfl
    have x5 := hd5.cell (i := 5) rfl
    have c4 := hd35.cell (i := 4) rfl
    have hl5 := hd5.lt
    have hl35 := hd35.lt
    have hs5 := hb5.size
    have HB5 := Lib.hid hb5
    clear hW5 hd5 hd35 hb5
    refine mixB_start [5, 6, 7] (Cls W5) (by kernel_rfl) (Cls.of ((Below.refl _ _).drew)) (fun hCw => ?_)
    refine mixB_flt (by kernel_rfl) [0, 1, 2] 5 _ _ hCw (by kernel_rfl) ?_
    simp only [opsAt, List.map_cons, List.map_nil, List.toList_toArray, List.getD_cons_succ, List.getD_cons_zero]
    unfold Cls
    repeat (go_big_quiet_step (fail))
    refine wpQuiet_nil ?_
    (try rw [← Cls_def])
    refine mixB_ch (i := 3) (fuel := 4) (by kernel_rfl) (by kernel_rfl) ?_
    simp only [opsAt, List.map_cons, List.map_nil, List.toList_toArray, List.getD_cons_succ, List.getD_cons_zero]
    go_wp2_with (go_at_call 15; refine (HOK.out _ _ _ (HV.out.ext (below_ext HB5.out hCw.below))).mono ?_; rintro e' w6 ⟨cs6, rfl, hv6, _, hb6⟩; obtain ⟨pl2, cl2, pf2, cf2, rfl, _⟩ := hasVal_mk.1 hv6; have hC6 := hCw.trans hb6)
    refine ThenB.mk (hC6) (fun hCw => ?_)
    refine mixB_ch (i := 4) (fuel := 3) (by kernel_rfl) (by kernel_rfl) ?_
    simp only [opsAt, List.map_cons, List.map_nil, List.toList_toArray, List.getD_cons_succ, List.getD_cons_zero]
    go_wp2_with (fail)
    refine ThenB.mk (hC6.trans ((Below.refl _ _).alloc (Nat.le_refl _) _)) (fun hCw => ?_)
    refine mixB_end [5, 6, 7] (by kernel_rfl) ?_
    simp only [opsAt, List.map_cons, List.map_nil, List.toList_toArray, List.getD_cons_succ, List.getD_cons_zero]
    have hb56 := hC6.below
    have hbr6 := below_ext HB5.out hb56
    have hs6 := hbr6.size
    have hs56 := hb56.size
    have hvy : HasVal (fun z => W5.heap.size ≤ z) w6 (.mk k1 b1 n1 s1 l1 f1) [.int .u8 (k1 : Int), .bool b1, .int .i64 n1, .string (bs s1), .slice pl2 l1.length cl2, .slice pf2 f1.length cf2] := hv6
    have hb67 : Below w6.heap.size w6 (w6.alloc (.cells #[.int .u8 (k1 : Int), .bool b1, .int .i64 n1, .string (bs s1), .slice pl2 l1.length cl2, .slice pf2 f1.length cf2] 26)) := (Below.refl _ _).alloc (Nat.le_refl _) _
    have hbr7 := below_ext hbr6 hb67
    have HA6 := Lib.hid (HAC.out.kept relV (fun z hz hlt => hbr7.block z hlt))
    have hy : HasVal (fun z => W0.heap.size ≤ z ∧ (Value.slice q1 j d1).ownBlock ≠ some z) (w6.alloc (.cells #[.int .u8 (k1 : Int), .bool b1, .int .i64 n1, .string (bs s1), .slice pl2 l1.length cl2, .slice pf2 f1.length cf2] 26)) (.mk k1 b1 n1 s1 l1 f1) [.int .u8 (k1 : Int), .bool b1, .int .i64 n1, .string (bs s1), .slice pl2 l1.length cl2, .slice pf2 f1.length cf2] :=
      HasVal.ext_to (S := fun z => W5.heap.size ≤ z) hvy (fun z hz => ⟨by omega, fun e => by have := (HOW.out z e).2; omega⟩) (fun z _ hlt => hb67.block z hlt)
    have HY := Lib.hid hy
    have HD16 := Lib.hid (HD1.out.ext hbr7)
    have HD26 := Lib.hid (HD2.out.ext hbr7)
    have HD36 := Lib.hid (HD3.out.ext hbr7)
    have HBW6 := Lib.hid (HBW.out.trans (hbr7.mono (by omega)))
    clear hy hv6 hvy hb6 hb56 hbr6 hb67 hbr7 hCw hC6 x0 x1 x2 x3 x4 x5 c4
    refine push_acc relV W0.heap.size rfl _ _ 23 26 (.agg #[.int .u8 0, .bool false, .int .i64 0, .string ⟨#[]⟩, .slice none 0 0, .slice none 0 0]) 80 rfl Tryd.underlying23 (by kernel_rfl) rfl (by decide) _ (l.take j) HA6.out w6.heap.size [.int .u8 (k1 : Int), .bool b1, .int .i64 n1, .string (bs s1), .slice pl2 l1.length cl2, .slice pf2 f1.length cf2] (.mk k1 b1 n1 s1 l1 f1) (IsBlk.new _ _ _) HY.out rfl rfl (by simp; omega) (by rw [HJL.out]; omega) (by rw [HJL.out]; unfold maxLen; omega) ?_
    intro g1 cap w7 hacc7 hg7 hB1 hor hlt7
    rw [HJL.out] at hacc7
    rw [HJL.out]
    have hd37 := blk_grown HD36.out hg7 (fun e => by have := (HOW.out _ e).1; omega)
    have hd17 := blk_grown HD16.out hg7 (fun e => by have := (HOW.out _ e).1; omega)
    have hd27 := blk_grown HD26.out hg7 (fun e => by have := (HOW.out _ e).1; omega)
    have hbw7 := below_grown HBW6.out hg7 HBW6.out.size (fun z hz => by have := (HOW.out z hz).1; omega)
    have f7 : w7.frozen? ⟨w.heap.size + 1 + 1, 4, none⟩ = false := hd37.frozen 4
    have d7 : w7.cell? ⟨w.heap.size + 1 + 1, 4, none⟩ = some (.slice q1 j d1) := hd37.cell rfl
    have htk : l.take (j + 1) = l.take j ++ [.mk k1 b1 n1 s1 l1 f1] := by rw [List.take_succ_eq_append_getElem hlt, HU.out]
    have hacs : Acc HasVal W0.heap.size 26 6 (w7.setCell ⟨w.heap.size + 1 + 1, 4, none⟩ (.slice (some ⟨g1, 0, none⟩) (j + 1) cap)) (.slice (some ⟨g1, 0, none⟩) (j + 1) cap) (l.take (j + 1)) := by
      rw [htk]
      exact hacc7.kept relV (fun z hz _ => Below.heap_setCell _ _ _ _ (show z ≠ w.heap.size + 1 + 1 by omega))
    have hd3s := hd37.set 4 (.slice (some ⟨g1, 0, none⟩) (j + 1) cap)
    have hd1s := hd17.set_other (a := ⟨w.heap.size + 1 + 1, 4, none⟩) (show w.heap.size + 1 + 1 ≠ w.heap.size by omega) (.slice (some ⟨g1, 0, none⟩) (j + 1) cap)
    have hd2s := hd27.set_other (a := ⟨w.heap.size + 1 + 1, 4, none⟩) (show w.heap.size + 1 + 1 ≠ w.heap.size + 1 by omega) (.slice (some ⟨g1, 0, none⟩) (j + 1) cap)
    have hbws := below_set (o := 4) (u := .slice (some ⟨g1, 0, none⟩) (j + 1) cap) hbw7 (show w.heap.size ≤ w.heap.size + 1 + 1 by omega)
    have hszs : W0.heap.size ≤ (w7.setCell ⟨w.heap.size + 1 + 1, 4, none⟩ (.slice (some ⟨g1, 0, none⟩) (j + 1) cap)).heap.size := by simp; omega
    have HFS := Lib.hid (And.intro hacs (And.intro hd3s (And.intro hd1s (And.intro hd2s (And.intro hbws hszs)))))
    clear hacs hd3s hd1s hd2s hbws hszs hacc7 hg7 hd37 hd17 hd27 hbw7 hor htk
    go_wp2
    refine Calm.normal ?_
    go_wp2
    go_roundw
    case rel => exact ⟨j + 1, .slice (some ⟨g1, 0, none⟩) (j + 1) cap, by go_num, hlt, by simpa using HFS.out.2.1, HFS.out.1, HFS.out.2.2.1, HFS.out.2.2.2.1, HFS.out.2.2.2.2.1, HFS.out.2.2.2.2.2⟩
    case measure => simp [intOf]; omega
  · obtain rfl : j = l.length := by omega
    clear hjl
    have hacL : Acc HasVal W0.heap.size 26 6 wr (.slice q1 l.length d1) l := by have h := hacc; rw [List.take_length] at h; exact h
    obtain ⟨q, dd, hq, hlc1, hcm1, hcl⟩ := hacL.cells relV (S := fun z => W0.heap.size ≤ z) (fun _ h => h)
    obtain ⟨eq1, _, eq3⟩ := Value.slice.inj hq
    subst eq1
    subst eq3
    obtain ⟨W3, hW3⟩ : ∃ W3, W3 = wr := ⟨_, rfl⟩
    have hHL : HasL (fun z => W0.heap.size ≤ z ∧ z < W3.heap.size) W3 q1 l := by
      rw [hW3]
      intro i hi
      obtain ⟨gg, cs, e1, e2, e3⟩ := hcl i hi
      exact ⟨gg, 0, cs, e1, ⟨⟨e2.1, e2.2.1⟩, e2.2⟩, relV.lt e3⟩
    have HHL := Lib.hid hHL
    have HD13 : Hid (IsBlk W3 w.heap.size #[.int .u8 (k : Int), .bool b, .int .i64 n, .string (bs s), .slice pl l.length cl, .slice pf f.length cf] 26) := Lib.hid (by rw [hW3]; exact hd1)
    have HD23 : Hid (IsBlk W3 (w.heap.size + 1) ([.int .u8 0, .bool false, .int .i64 0, .string (bs []), .slice none 0 0, .slice none 0 0] : List Value).toArray 26) := Lib.hid (by rw [hW3]; exact hd2)
    have HD33 : Hid (IsBlk W3 (w.heap.size + 1 + 1) #[.int .u8 (k : Int), .bool b, .int .i64 n, .string (bs s), .slice q1 l.length d1, .slice none 0 0] 26) := Lib.hid (by rw [hW3]; exact hd3)
    have HBW3 : Hid (Below w.heap.size w W3) := Lib.hid (by rw [hW3]; exact hbw)
    clear hcl hHL hacL hacc HAC HJL hown HOW hbw HBW HD1 HD2 HD3 c4 hd1 hd2 hd3 hq hlt
    subst hW3
    have c5 := HD13.out.cell (i := 5) rfl
    have hl13 := HD13.out.lt
    go_wp2
    clear c5
    go_loopw [29] (fun i wr => ∃ (j : Nat) (v2 : Value), i = .int .i64 (j : Int) ∧ j ≤ f.length ∧ IsBlk wr (w.heap.size + 1 + 1) #[.int .u8 (k : Int), .bool b, .int .i64 n, .string (bs s), .slice q1 l.length d1, v2] 26 ∧ Acc HasFld W3.heap.size 38 7 wr v2 (f.take j) ∧ HasL (fun z => W0.heap.size ≤ z ∧ z < W3.heap.size) wr q1 l ∧ IsBlk wr (w.heap.size + 1) ([.int .u8 0, .bool false, .int .i64 0, .string (bs []), .slice none 0 0, .slice none 0 0] : List Value).toArray 26 ∧ Below w.heap.size w wr ∧ W3.heap.size ≤ wr.heap.size) (fun i _ => f.length - (intOf i).toNat)
    case atStart => exact ⟨0, .slice none 0 0, rfl, Nat.zero_le _, HD33.out, Acc.nil _ _ _, HHL.out, HD23.out, HBW3.out, Nat.le_refl _⟩
    case round =>
    clear HD13 HD23 HD33 HHL HBW3
    obtain ⟨j, v2, rfl, hj, hd3, hacc, hhl, hd2, hbw, hsr3⟩ := hrel
    obtain ⟨q2, d2, rfl⟩ := hacc.slice
    have hjl : (f.take j).length = j := by rw [List.length_take]; omega
    rw [hjl] at hd3 hacc
    have HD2 := Lib.hid hd2
    have HD3 := Lib.hid hd3
    have HAC := Lib.hid hacc
    have HHL := Lib.hid hhl
    have HBW := Lib.hid hbw
    have HJL := Lib.hid hjl
    have hlr3' := hd3.lt
    have c5 := hd3.cell (i := 5) rfl
    have hown : ∀ z, (Value.slice q2 j d2).ownBlock = some z → W3.heap.size ≤ z ∧ z < wr.heap.size := hacc.lt
    have HOW := Lib.hid hown
    have hszw' := hbw.size
    by_cases hlt : j < f.length
    · obtain ⟨g, o, cu, hp, ⟨hxl, hcu⟩, hvu⟩ := (HF.out.ext hbw) j hlt
      have hok := HIF.out _ (List.getElem_mem hlt)
      generalize hu : f[j] = fu at hvu hok hxl hcu
      obtain ⟨x, u⟩ := fu
      simp only [] at hvu hok hxl hcu
      have HV := Lib.hid hvu
      have HOK := Lib.hid hok
      have HU := Lib.hid hu
      have HXL := Lib.hid hxl
      obtain ⟨k1, b1, n1, s1, l1, f1⟩ := u
      obtain ⟨pl1, cl1, pf1, cf1, rfl, _⟩ := hasVal_mk.1 hvu
      obtain ⟨e0, e1, e2, e3, e4, e5, e6⟩ := hcu.seven
      have hgl := hcu.2.1
      subst hp
      clear hd2 hd3 hacc hhl hbw hjl hown hvu hok hu hcu hxl
      go_upto_region 11 with (fail)
      generalize hW5 : World.alloc wr _ = W5
      have hb5 : Below wr.heap.size wr W5 := by rw [← hW5]; exact (Below.refl _ _).alloc (Nat.le_refl _) _
      have hd5 : IsBlk W5 wr.heap.size #[.string (bs x), .int .u8 (k1 : Int), .bool b1, .int .i64 n1, .string (bs s1), .slice pl1 l1.length cl1, .slice pf1 f1.length cf1] 38 := by rw [← hW5]; exact IsBlk.new _ _ _
      have hd35 := HD3.out.ext hb5
      clear e0 e1 e2 e3 e4 e5 e6 c5
      have x0 := hd5.cell (i := 0) rfl
      have x1 := hd5.cell (i := 1) rfl
      have x2 := hd5.cell (i := 2) rfl
      have x3 := hd5.cell (i := 3) rfl
      have x4 := hd5.cell (i := 4) rfl
      have x5 := hd5.cell (i := 5) rfl
      have x6 := hd5.cell (i := 6) rfl
      have c5 := hd35.cell (i := 5) rfl
      have hl5 := hd5.lt
      have hl35 := hd35.lt
      have hs5 := hb5.size
      have HB5 := Lib.hid hb5
      clear hW5 hd5 hd35 hb5
      refine mixB_start [9, 10, 11] (Cls W5) (by kernel_rfl) (Cls.of ((Below.refl _ _).drew)) (fun hCw => ?_)
      refine mixB_flt (by kernel_rfl) [0, 1, 2, 3, 4, 5] 6 _ _ hCw (by kernel_rfl) ?_
      simp only [opsAt, List.map_cons, List.map_nil, List.toList_toArray, List.getD_cons_succ, List.getD_cons_zero]
      unfold Cls
      repeat (go_big_quiet_step (fail))
      refine wpQuiet_nil ?_
      (try rw [← Cls_def])
      refine mixB_ch (i := 6) (fuel := 5) (by kernel_rfl) (by kernel_rfl) ?_
      simp only [opsAt, List.map_cons, List.map_nil, List.toList_toArray, List.getD_cons_succ, List.getD_cons_zero]
      go_wp2_with (go_at_call 15; refine (HOK.out _ _ _ (HV.out.ext (below_ext HB5.out hCw.below))).mono ?_; rintro e' w6 ⟨cs6, rfl, hv6, _, hb6⟩; obtain ⟨pl2, cl2, pf2, cf2, rfl, _⟩ := hasVal_mk.1 hv6; have hC6 := hCw.trans hb6)
      refine ThenB.mk (hC6) (fun hCw => ?_)
      refine mixB_flt (by kernel_rfl) [7] 4 _ _ hCw (by kernel_rfl) ?_
      simp only [opsAt, List.map_cons, List.map_nil, List.toList_toArray, List.getD_cons_succ, List.getD_cons_zero]
      unfold Cls
      repeat (go_big_quiet_step (fail))
      refine wpQuiet_nil ?_
      (try rw [← Cls_def])
      refine mixB_ch (i := 8) (fuel := 3) (by kernel_rfl) (by kernel_rfl) ?_
      simp only [opsAt, List.map_cons, List.map_nil, List.toList_toArray, List.getD_cons_succ, List.getD_cons_zero]
      go_wp2_with (fail)
      refine ThenB.mk (hC6.trans ((Below.refl _ _).alloc (Nat.le_refl _) _)) (fun hCw => ?_)
      refine mixB_end [9, 10, 11] (by kernel_rfl) ?_
      simp only [opsAt, List.map_cons, List.map_nil, List.toList_toArray, List.getD_cons_succ, List.getD_cons_zero]
      have hb56 := hC6.below
      have hbr6 := below_ext HB5.out hb56
      have hs6 := hbr6.size
      have hs56 := hb56.size
      have hvy : HasVal (fun z => W5.heap.size ≤ z) w6 (.mk k1 b1 n1 s1 l1 f1) [.int .u8 (k1 : Int), .bool b1, .int .i64 n1, .string (bs s1), .slice pl2 l1.length cl2, .slice pf2 f1.length cf2] := hv6
      have hb67 : Below w6.heap.size w6 (w6.alloc (.cells (.string (bs x) :: [.int .u8 (k1 : Int), .bool b1, .int .i64 n1, .string (bs s1), .slice pl2 l1.length cl2, .slice pf2 f1.length cf2]).toArray 38)) := (Below.refl _ _).alloc (Nat.le_refl _) _
      have hbr7 := below_ext hbr6 hb67
      have HA6 := Lib.hid (HAC.out.kept relF (fun z hz hlt => hbr7.block z hlt))
      have hy : HasFld (fun z => W3.heap.size ≤ z ∧ (Value.slice q2 j d2).ownBlock ≠ some z) (w6.alloc (.cells (.string (bs x) :: [.int .u8 (k1 : Int), .bool b1, .int .i64 n1, .string (bs s1), .slice pl2 l1.length cl2, .slice pf2 f1.length cf2]).toArray 38)) (x, .mk k1 b1 n1 s1 l1 f1) (.string (bs x) :: [.int .u8 (k1 : Int), .bool b1, .int .i64 n1, .string (bs s1), .slice pl2 l1.length cl2, .slice pf2 f1.length cf2]) :=
        ⟨[.int .u8 (k1 : Int), .bool b1, .int .i64 n1, .string (bs s1), .slice pl2 l1.length cl2, .slice pf2 f1.length cf2], rfl, HXL.out, HasVal.ext_to (S := fun z => W5.heap.size ≤ z) hvy (fun z hz => ⟨by omega, fun e => by have := (HOW.out z e).2; omega⟩) (fun z _ hlt => hb67.block z hlt)⟩
      have HY := Lib.hid hy
      have HHL6 := Lib.hid (HHL.out.ext hbr7)
      have HD26 := Lib.hid (HD2.out.ext hbr7)
      have HD36 := Lib.hid (HD3.out.ext hbr7)
      have HBW6 := Lib.hid (HBW.out.trans (hbr7.mono (by omega)))
      clear hy hv6 hvy hb6 hb56 hbr6 hb67 hbr7 hCw hC6 x0 x1 x2 x3 x4 x5 x6 c5
      refine push_acc relF W3.heap.size rfl _ _ 24 38 (.agg #[.string ⟨#[]⟩, .int .u8 0, .bool false, .int .i64 0, .string ⟨#[]⟩, .slice none 0 0, .slice none 0 0]) 96 rfl Tryd.underlying24 (by kernel_rfl) rfl (by decide) _ (f.take j) HA6.out w6.heap.size (.string (bs x) :: [.int .u8 (k1 : Int), .bool b1, .int .i64 n1, .string (bs s1), .slice pl2 l1.length cl2, .slice pf2 f1.length cf2]) (x, .mk k1 b1 n1 s1 l1 f1) (IsBlk.new _ _ _) HY.out rfl rfl (by simp; omega) (by rw [HJL.out]; omega) (by rw [HJL.out]; unfold maxLen; omega) ?_
      intro g1 cap w7 hacc7 hg7 hB1 hor hlt7
      rw [HJL.out] at hacc7
      rw [HJL.out]
      have hd37 := blk_grown HD36.out hg7 (fun e => by have := (HOW.out _ e).1; omega)
      have hd27 := blk_grown HD26.out hg7 (fun e => by have := (HOW.out _ e).1; omega)
      have hbw7 := below_grown HBW6.out hg7 HBW6.out.size (fun z hz => by have := (HOW.out z hz).1; omega)
      have hhl7 : HasL (fun z => W0.heap.size ≤ z ∧ z < W3.heap.size) w7 q1 l := HHL6.out.ext_to (fun _ h => h) (fun z hz hlt => hg7.block z hlt (fun e => by have := (HOW.out z e.symm).1; omega))
      have f7 : w7.frozen? ⟨w.heap.size + 1 + 1, 5, none⟩ = false := hd37.frozen 5
      have d7 : w7.cell? ⟨w.heap.size + 1 + 1, 5, none⟩ = some (.slice q2 j d2) := hd37.cell rfl
      have htk : f.take (j + 1) = f.take j ++ [(x, .mk k1 b1 n1 s1 l1 f1)] := by rw [List.take_succ_eq_append_getElem hlt, HU.out]
      have hacs : Acc HasFld W3.heap.size 38 7 (w7.setCell ⟨w.heap.size + 1 + 1, 5, none⟩ (.slice (some ⟨g1, 0, none⟩) (j + 1) cap)) (.slice (some ⟨g1, 0, none⟩) (j + 1) cap) (f.take (j + 1)) := by
        rw [htk]
        exact hacc7.kept relF (fun z hz _ => Below.heap_setCell _ _ _ _ (show z ≠ w.heap.size + 1 + 1 by omega))
      have hhls : HasL (fun z => W0.heap.size ≤ z ∧ z < W3.heap.size) (w7.setCell ⟨w.heap.size + 1 + 1, 5, none⟩ (.slice (some ⟨g1, 0, none⟩) (j + 1) cap)) q1 l := hhl7.ext_to (fun _ h => h) (fun z hz _ => Below.heap_setCell _ _ _ _ (show z ≠ w.heap.size + 1 + 1 by omega))
      have hd3s := hd37.set 5 (.slice (some ⟨g1, 0, none⟩) (j + 1) cap)
      have hd2s := hd27.set_other (a := ⟨w.heap.size + 1 + 1, 5, none⟩) (show w.heap.size + 1 + 1 ≠ w.heap.size + 1 by omega) (.slice (some ⟨g1, 0, none⟩) (j + 1) cap)
      have hbws := below_set (o := 5) (u := .slice (some ⟨g1, 0, none⟩) (j + 1) cap) hbw7 (show w.heap.size ≤ w.heap.size + 1 + 1 by omega)
      have hszs : W3.heap.size ≤ (w7.setCell ⟨w.heap.size + 1 + 1, 5, none⟩ (.slice (some ⟨g1, 0, none⟩) (j + 1) cap)).heap.size := by simp; omega
      have HFS := Lib.hid (And.intro hacs (And.intro hd3s (And.intro hhls (And.intro hd2s (And.intro hbws hszs)))))
      clear hacs hd3s hhls hd2s hbws hszs hacc7 hg7 hd37 hd27 hbw7 hhl7 hor htk
      go_wp2
      refine Calm.normal ?_
      go_wp2
      go_roundw
      case rel => exact ⟨j + 1, .slice (some ⟨g1, 0, none⟩) (j + 1) cap, by go_num, hlt, by simpa using HFS.out.2.1, HFS.out.1, HFS.out.2.2.1, HFS.out.2.2.2.1, HFS.out.2.2.2.2.1, HFS.out.2.2.2.2.2⟩
      case measure => simp [intOf]; omega
    · obtain rfl : j = f.length := by omega
      have hac2 : Acc HasFld W3.heap.size 38 7 wr (.slice q2 f.length d2) f := by have h := hacc; rw [List.take_length] at h; exact h
      have hfu := hac2.full relF
      have hst : StF W0.heap.size (fun z => (W0.heap.size ≤ z ∧ z < W3.heap.size) ∨ ((W3.heap.size ≤ z ∧ (Value.slice q2 f.length d2).ownBlock ≠ some z) ∧ z < wr.heap.size)) wr q1 l (.slice q2 f.length d2) f := by
        refine ⟨hhl.ext_to (fun z hz => .inl hz) (fun _ _ _ => rfl), ?_, fun z hz => ?_⟩
        · obtain ⟨css, ⟨h1, h2⟩, h3, h4⟩ := hfu
          refine ⟨css, ⟨h1, ?_⟩, h3, fun i hi hi' => relF.kept (h4 i hi hi') (fun z hz => .inr hz) (fun _ _ _ => rfl)⟩
          rcases h2 with h2 | ⟨gg, cap, cur, a1, a2, a3⟩
          · exact .inl h2
          · exact .inr ⟨gg, cap, cur, a1, by omega, a3⟩
        · rcases hz with hz | hz
          · exact ⟨hz.1, fun e => by have := (HOW.out z e).1; omega⟩
          · exact ⟨by omega, hz.1.2⟩
      have hend : ∀ W, (∀ z, z ≠ w.heap.size + 1 → W.heap[z]? = wr.heap[z]?) → HasVal (fun z => w.heap.size ≤ z) W (.mk k b n s l f) [.int .u8 (k : Int), .bool b, .int .i64 n, .string (bs s), .slice q1 l.length d1, .slice q2 f.length d2] ∧ OwnRows w.heap.size W [.int .u8 (k : Int), .bool b, .int .i64 n, .string (bs s), .slice q1 l.length d1, .slice q2 f.length d2] (.mk k b n s l f) := by
        intro W ho
        have hbd := HBD.out
        have hstW := hst.kept (w' := W) (fun z hz => ho z (by have := (HOW.out z hz).1; omega)) (fun z hz _ => ho z (by
          rcases hz with hz | hz
          · omega
          · omega))
        exact st_fin hstW rfl ⟨hbd.1, hbd.2.1, hbd.2.2.1, hbd.2.2.2.1, hbd.2.2.2.2.1⟩ hlc1 hcm1 hbd.2.2.2.2.2.1 (B' := w.heap.size) (by omega)
      have v0 := hd3.cell (i := 0) rfl
      have v1 := hd3.cell (i := 1) rfl
      have v2 := hd3.cell (i := 2) rfl
      have v3 := hd3.cell (i := 3) rfl
      have v4 := hd3.cell (i := 4) rfl
      have v5 := hd3.cell (i := 5) rfl
      have z0 := hd2.cell (i := 0) rfl
      have z1 := hd2.cell (i := 1) rfl
      have z2 := hd2.cell (i := 2) rfl
      have z3 := hd2.cell (i := 3) rfl
      have z4 := hd2.cell (i := 4) rfl
      have z5 := hd2.cell (i := 5) rfl
      have fz0 := hd2.frozen 0
      have fz1 := hd2.frozen 1
      have fz2 := hd2.frozen 2
      have fz3 := hd2.frozen 3
      have fz4 := hd2.frozen 4
      have fz5 := hd2.frozen 5
      have hlz := hd2.lt
      have hze := And.intro (blk_setCells [.int .u8 (k : Int), .bool b, .int .i64 n, .string (bs s), .slice q1 l.length d1, .slice q2 f.length d2] 0 wr [.int .u8 0, .bool false, .int .i64 0, .string (bs []), .slice none 0 0, .slice none 0 0] hd2) (And.intro (hend _ (fun z hz => other_setCells hz [.int .u8 (k : Int), .bool b, .int .i64 n, .string (bs s), .slice q1 l.length d1, .slice q2 f.length d2] 0 wr)) (below_setCells (B := w.heap.size) (w0 := w) (show w.heap.size ≤ w.heap.size + 1 by omega) [.int .u8 (k : Int), .bool b, .int .i64 n, .string (bs s), .slice q1 l.length d1, .slice q2 f.length d2] 0 wr hbw))
      have HFN := Lib.hid hze
      clear hze hend hst hfu hac2 hd2 hd3 hhl hbw hacc hown hjl HJL c5 HHL HAC
      go_wp2
      exact bodyPost_ret (results_c (p := 2) (ty := 26) Tryd.results15 rfl HFN.out.1 Tryd.underlying26 rfl (by kernel_rfl)) rfl ⟨[.int .u8 (k : Int), .bool b, .int .i64 n, .string (bs s), .slice q1 l.length d1, .slice q2 f.length d2], rfl, HFN.out.2.1.1, HFN.out.2.1.2, HFN.out.2.2⟩
theorem rcopy_all : ∀ (m : Nat) (v : DVal), SizeOf.sizeOf v < m → RCopyOk v := by
  intro m
  induction m with
  | zero => intro v h; omega
  | succ m ih =>
    intro v h
    obtain ⟨k, b, n, s, l, f⟩ := v
    refine rcopy_step k b n s l f (fun u hu => ih u ?_) (fun p hp => ih p.2 ?_)
    · have := DVal.size_l (k := k) (b := b) (n := n) (s := s) (f := f) u hu
      omega
    · have := DVal.size_f (k := k) (b := b) (n := n) (s := s) (l := l) p hp
      omega
theorem rcopy_any (v : DVal) : RCopyOk v := rcopy_all _ v (Nat.lt_succ_self _)
end Go.Proofs.YthcojmpigdojoaaDoor
