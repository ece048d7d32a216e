/- value.Put into a struct that has no fields. Conditions: struct and value lie in memory. -/
import Derived.Test.YthcojmpigdojoaaDoorOwnV
import Derived.Test.YthcojmpigdojoaaDoorIdx
import Derived.Test.YthcojmpigdojoaaDoorIns
set_option linter.unusedVariables false
set_option linter.unusedSimpArgs false
namespace Go.Proofs.YthcojmpigdojoaaDoor
open Go Go.RowKit Go.BigFrame
set_option maxRecDepth 100000

set_option maxHeartbeats 8000000 in
theorem put0_any (b : Bool) (n : Int) (s : List UInt8) (l : List DVal) (name : List UInt8) (x : DVal) (S S2 : Nat → Prop) (cs cx : List Value) (w : World) (hv : HasVal S w (.mk 6 b n s l []) cs) (hx : HasVal S2 w x cx) (hnl : name.length ≤ 1073741824) :
    Calls Tryd.prog 14 #[.agg cs.toArray, .string (bs name), .agg cx.toArray] w fun e' w' => ∃ cs', e' = .returned (.tuple #[.agg cs'.toArray, .int .i64 0]) ∧ HasVal (fun b => w.heap.size ≤ b) w' (.mk 6 b n s l [(name, x)]) cs' ∧ Below w.heap.size w w' := by
  have HV := Lib.hid hv
  have HX := Lib.hid hx
  have hv' := hv
  have hx' := hx
  obtain ⟨k1, b1, n1, s1, l1, f1⟩ := x
  obtain ⟨pl, cl, pf, cf, rfl, hbd, _⟩ := hasVal_mk.1 hv'
  obtain ⟨pl1, cl1, pf1, cf1, rfl, _⟩ := hasVal_mk.1 hx'
  have HBD := Lib.hid hbd
  clear hv hx hv' hx' hbd
  show Calls Tryd.prog 14 #[.agg #[.int .u8 6, .bool b, .int .i64 n, .string (bs s), .slice pl l.length cl, .slice pf ([] : List (List UInt8 × DVal)).length cf], .string (bs name), .agg #[.int .u8 (k1 : Int), .bool b1, .int .i64 n1, .string (bs s1), .slice pl1 l1.length cl1, .slice pf1 f1.length cf1]] w _
  go_enter Tryd.func14, Tryd.ntmps14
  go_upto_region 1 with (fail)
  generalize hW0 : World.alloc (World.alloc (World.alloc (World.alloc w _) _) _) _ = W0
  have hd1 : IsBlk W0 w.heap.size #[.int .u8 6, .bool b, .int .i64 n, .string (bs s), .slice pl l.length cl, .slice pf 0 cf] 26 := by rw [← hW0]; exact (((IsBlk.new _ _ _).alloc _).alloc _).alloc _
  have hd2 : IsBlk W0 (w.heap.size + 1) #[.string (bs name)] 9 := by rw [← hW0]; exact ((IsBlk.new_at (by simp)).alloc _).alloc _
  have hd3 : IsBlk W0 (w.heap.size + 1 + 1) #[.int .u8 (k1 : Int), .bool b1, .int .i64 n1, .string (bs s1), .slice pl1 l1.length cl1, .slice pf1 f1.length cf1] 26 := by rw [← hW0]; exact (IsBlk.new_at (by simp)).alloc _
  have hd4 : IsBlk W0 (w.heap.size + 1 + 1 + 1) #[.int .u8 0, .bool false, .int .i64 0, .string (bs []), .slice none 0 0, .slice none 0 0] 26 := by rw [← hW0]; exact IsBlk.new_at (by simp)
  have hb0 : Below w.heap.size w W0 := by rw [← hW0]; exact ((((Below.refl _ _).alloc (Nat.le_refl _) _).alloc (by simp) _).alloc (by simp; omega) _).alloc (by simp; omega) _
  have hlt4 : w.heap.size + 1 + 1 + 1 < W0.heap.size := hd4.lt
  clear hW0
  have x0 := hd1.cell (i := 0) rfl
  have x1 := hd1.cell (i := 1) rfl
  have x2 := hd1.cell (i := 2) rfl
  have x3 := hd1.cell (i := 3) rfl
  have x4 := hd1.cell (i := 4) rfl
  have x5 := hd1.cell (i := 5) rfl
  have HD2 := Lib.hid hd2
  have HD3 := Lib.hid hd3
  have HD4 := Lib.hid hd4
  have HB0 := Lib.hid hb0
  have hlt1 := hd1.lt
  clear hd1 hd2 hd3 hd4 hb0
  go_wp2_with fail
  go_at_call 29
  refine (own_any (.mk 6 b n s l []) _ _ W0 (HV.out.ext HB0.out)).mono ?_
  rintro e' w1 ⟨cs', rfl, _, hrows, hb1⟩
  obtain ⟨p1, c1, v2, rfl, hlc, hcm, hL1, hA⟩ := hrows
  obtain ⟨p2, c2, rfl, hnc2, _⟩ := (hA.full relF).slice
  have HL1 := Lib.hid hL1
  have HA1 := Lib.hid (hA.full relF)
  have hz1 := hb1.size
  have HB1 := Lib.hid hb1
  clear hL1 hA hb1 x0 x1 x2 x3 x4 x5
  go_upto_region 4 with (fail)
  generalize hW2 : World.alloc w1 _ = W2
  have hbo : IsBlk W2 w1.heap.size #[.int .u8 6, .bool b, .int .i64 n, .string (bs s), .slice p1 l.length c1, .slice p2 0 c2] 26 := by rw [← hW2]; exact IsBlk.new _ _ _
  have hb12 : Below w1.heap.size w1 W2 := by rw [← hW2]; exact (Below.refl _ _).alloc (Nat.le_refl _) _
  have hlo := hbo.lt
  have hb02 : Below W0.heap.size W0 W2 := HB1.out.trans (hb12.mono hz1)
  have hd2 := HD2.out.ext hb02
  have x0 := hd2.cell (i := 0) rfl
  have y5 := hbo.cell (i := 5) rfl
  have hl2 := hd2.lt
  have HBO := Lib.hid hbo
  have HB12 := Lib.hid hb12
  have HB02 := Lib.hid hb02
  clear hW2 hbo hb12 hb02 hd2
  have hmf : ∀ (fn : Fn) (first cap : Array Value) (w : World), (Instr.makeFunc fn first cap).run Tryd.prog w = .ok (.func fn first cap) w := fun _ _ _ _ => rfl
  refine mixB_start [] (Cls W2) (by kernel_rfl) (Cls.of ((Below.refl _ _).drew)) (fun hCw => ?_)
  refine mixB_flt (by kernel_rfl) [0, 1, 2] 3 _ _ hCw (by kernel_rfl) ?_
  simp only [opsAt, List.map_cons, List.map_nil, List.toList_toArray, List.getD_cons_succ, List.getD_cons_zero]
  unfold Cls
  repeat (go_big_quiet_step (fail))
  refine wpQuiet_nil ?_
  (try rw [← Cls_def])
  refine mixB_ch (i := 3) (fuel := 2) (by kernel_rfl) (by kernel_rfl) ?_
  simp only [opsAt, List.map_cons, List.map_nil, List.toList_toArray, List.getD_cons_succ, List.getD_cons_zero]
  go_wp2_with (go_at_call 31; refine (named_any name _).mono ?_; rintro e' w3 ⟨gn, rfl, hgn, hcn, hb3⟩; have hC3 := hCw.trans hb3)
  refine ThenB.mk (hCw.trans hb3) (fun hCw => ?_)
  refine mixB_ch (i := 4) (fuel := 1) (by kernel_rfl) (by kernel_rfl) ?_
  simp only [opsAt, List.map_cons, List.map_nil, List.toList_toArray, List.getD_cons_succ, List.getD_cons_zero]
  go_wp2_with (go_at_call 30; refine (idx_named name [] (fun _ => True) p2 c2 gn w3 (fun i hi => by simp at hi) (by simp) hgn hcn).mono ?_; rintro e' w4 ⟨rfl, hb4⟩; rw [show idxI (isName name) 0 [] = -1 from rfl])
  refine ThenB.mk (hCw.trans hb4) (fun hCw => ?_)
  refine mixB_flt (by kernel_rfl) [5] 0 _ _ hCw (by kernel_rfl) ?_
  simp only [opsAt, List.map_cons, List.map_nil, List.toList_toArray, List.getD_cons_succ, List.getD_cons_zero]
  unfold Cls
  repeat (go_big_quiet_step (fail))
  refine wpQuiet_nil ?_
  (try rw [← Cls_def])
  refine mixB_end [] (by kernel_rfl) ?_
  refine wpList_nil ?_
  refine Calm.normal ?_
  have hb24 := hCw.below
  have HB24 := Lib.hid hb24
  have hz4 := hb24.size
  have hd24 := HD2.out.ext (HB02.out.trans (hb24.mono HB02.out.size))
  have hbo4 := HBO.out.ext hb24
  have y5 := hbo4.cell (i := 5) rfl
  have hl4 := hbo4.lt
  have HN4 := Lib.hid (hd24.cell (i := 0) rfl)
  have hn4 := hd24.lt
  clear hCw hC3 hb3 hb4 hgn hcn x0 hb24 hd24 hbo4 hlo hl2
  go_wp2_with fail
  go_at_call 30
  refine (idx_above name [] (fun _ => True) p2 c2 (w.heap.size + 1) w4 (fun i hi => by simp at hi) (by simp) hn4 HN4.out).mono ?_
  rintro e' w5 ⟨rfl, hb5⟩
  rw [show idxI (isAbove name) 0 [] = -1 from rfl]
  have HB25 := Lib.hid (below_ext HB24.out hb5)
  have hz5 := hb5.size
  have hbo5 := HBO.out.ext HB25.out
  have y5 := hbo5.cell (i := 5) rfl
  have hl5 := hbo5.lt
  have hb05 := HB02.out.trans (HB25.out.mono HB02.out.size)
  have HB05 := Lib.hid hb05
  have hd25 := HD2.out.ext hb05
  have hd35 := HD3.out.ext hb05
  have x0 := hd25.cell (i := 0) rfl
  have hl25 := hd25.lt
  have u0 := hd35.cell (i := 0) rfl
  have u1 := hd35.cell (i := 1) rfl
  have u2 := hd35.cell (i := 2) rfl
  have u3 := hd35.cell (i := 3) rfl
  have u4 := hd35.cell (i := 4) rfl
  have u5 := hd35.cell (i := 5) rfl
  have hl35 := hd35.lt
  clear hb5 hl4 hn4 hbo5 hd25 hd35 hb05
  go_upto_region 11 with (fail)
  refine mixB_start [8, 9, 10] (Cls w5) (by kernel_rfl) (Cls.of ((Below.refl _ _).drew)) (fun hCw => ?_)
  refine mixB_flt (by kernel_rfl) [0, 1, 2, 3, 4] 6 _ _ hCw (by kernel_rfl) ?_
  simp only [opsAt, List.map_cons, List.map_nil, List.toList_toArray, List.getD_cons_succ, List.getD_cons_zero]
  unfold Cls
  repeat (go_big_quiet_step (fail))
  refine wpQuiet_nil ?_
  (try rw [← Cls_def])
  refine mixB_ch (i := 5) (fuel := 5) (by kernel_rfl) (by kernel_rfl) ?_
  simp only [opsAt, List.map_cons, List.map_nil, List.toList_toArray, List.getD_cons_succ, List.getD_cons_zero]
  go_wp2_with (go_at_call 29; refine (own_any (.mk k1 b1 n1 s1 l1 f1) _ _ _ ((HX.out.ext HB0.out).ext (HB05.out.trans (hCw.below.mono HB05.out.size)))).mono ?_; rintro e' w6 ⟨csx, rfl, hvx, _, hb6⟩; obtain ⟨px, cx', pfx, cfx, rfl, _⟩ := hasVal_mk.1 hvx; have hC6 := hCw.trans hb6; have hCw0 := hC6)
  refine ThenB.mk (hCw.trans hb6) (fun hCw => ?_)
  refine mixB_flt (by kernel_rfl) [6] 4 _ _ hCw (by kernel_rfl) ?_
  simp only [opsAt, List.map_cons, List.map_nil, List.toList_toArray, List.getD_cons_succ, List.getD_cons_zero]
  unfold Cls
  repeat (go_big_quiet_step (fail))
  refine wpQuiet_nil ?_
  (try rw [← Cls_def])
  refine mixB_ch (i := 7) (fuel := 3) (by kernel_rfl) (by kernel_rfl) ?_
  simp only [opsAt, List.map_cons, List.map_nil, List.toList_toArray, List.getD_cons_succ, List.getD_cons_zero]
  go_wp2_with (fail)
  refine ThenB.mk (hC6.trans ((Below.refl _ _).alloc (Nat.le_refl _) _)) (fun hCw => ?_)
  refine mixB_end [8, 9, 10] (by kernel_rfl) ?_
  simp only [opsAt, List.map_cons, List.map_nil, List.toList_toArray, List.getD_cons_succ, List.getD_cons_zero]
  have hb56 : Below w5.heap.size w5 w6 := hCw0.below
  have hz6 := hb56.size
  have hvx' : HasVal (fun z => w5.heap.size ≤ z) w6 (.mk k1 b1 n1 s1 l1 f1) [.int .u8 (k1 : Int), .bool b1, .int .i64 n1, .string (bs s1), .slice px l1.length cx', .slice pfx f1.length cfx] := hvx
  generalize hW7 : World.alloc w6 _ = W7
  have hfl : IsBlk W7 w6.heap.size ([.string (bs name), .int .u8 (k1 : Int), .bool b1, .int .i64 n1, .string (bs s1), .slice px l1.length cx', .slice pfx f1.length cfx] : List Value).toArray 38 := by rw [← hW7]; exact IsBlk.new _ _ _
  have hb67 : Below w6.heap.size w6 W7 := by rw [← hW7]; exact (Below.refl _ _).alloc (Nat.le_refl _) _
  have hb57 := hb56.trans (hb67.mono hz6)
  have hb27 := below_ext HB25.out hb57
  have hb17 := below_ext HB12.out hb27
  have hz7 := hb67.size
  have hown : ∀ z, (Value.slice p2 0 c2).ownBlock = some z → W0.heap.size ≤ z ∧ z < w1.heap.size := HA1.out.lt
  have hfu : Full HasFld 7 W0.heap.size (fun z => (W0.heap.size ≤ z ∧ (Value.slice p2 0 c2).ownBlock ≠ some z ∧ z < w1.heap.size) ∨ w5.heap.size ≤ z) 38 W7 (.slice p2 0 c2) ([] : List (List UInt8 × DVal)) := (HA1.out.ext relF hb17).kept relF (fun z hz => .inl ⟨hz.1.1, hz.1.2, hz.2⟩) (fun _ _ => rfl) (fun _ _ _ => rfl)
  have hlt15 := hl5
  have hsz51 : w1.heap.size ≤ w5.heap.size := by have h1 := HB12.out.size; have h2 := HB25.out.size; omega
  have hc : Calls Tryd.prog 33 #[.slice p2 0 c2, .int .i64 0, .slice (some ⟨w6.heap.size, 0, none⟩) 1 1] W7 _ := insert_end [] W0.heap.size (.slice p2 0 c2) (name, .mk k1 b1 n1 s1 l1 f1) w6.heap.size [.string (bs name), .int .u8 (k1 : Int), .bool b1, .int .i64 n1, .string (bs s1), .slice px l1.length cx', .slice pfx f1.length cfx] W7 (fun z => (W0.heap.size ≤ z ∧ (Value.slice p2 0 c2).ownBlock ≠ some z ∧ z < w1.heap.size) ∨ w5.heap.size ≤ z) hfu (fun z hz e => by
    rcases hz with hz | hz
    · exact hz.2.1 e
    · have := (hown z e).2
      omega) hfl ⟨_, rfl, hnl, hvx'.ext_to (fun z hz => .inr hz) (fun z hz hlt => hb67.block z hlt)⟩ (by omega) (by simp)
  have HC := Lib.hid hc
  have HB17 := Lib.hid hb17
  have HB27 := Lib.hid hb27
  have HOWN := Lib.hid hown
  have hbo7 := HBO.out.ext hb27
  have y5 := hbo7.cell (i := 5) rfl
  have hl7 := hbo7.lt
  have HZ4 := Lib.hid (HD4.out.ext (HB02.out.trans (hb27.mono HB02.out.size)))
  clear hb56 hvx hvx' hW7 hfl hb67 hb57 hb27 hb17 hown hfu hc hbo7 hCw hCw0 hC6 hb6 x0 u0 u1 u2 u3 u4 u5 hl5 hl25 hl35
  go_wp2_with fail
  go_at_call 33
  refine HC.out.mono ?_
  rintro e' w8 ⟨g1, cap, rfl, hfull, hg, hBg, hg1, hor⟩
  have hoth8 : ∀ z, z < W7.heap.size → (Value.slice p2 0 c2).ownBlock ≠ some z → w8.heap[z]? = W7.heap[z]? := fun z hz hne => hg.block z hz (fun e => hne e.symm)
  have hbo8 : IsBlk w8 w1.heap.size _ 26 := (hoth8 _ hl7 (fun e => by have := (HOWN.out _ e).2; omega)).trans (HBO.out.ext HB27.out)
  have hz8 : IsBlk w8 (w.heap.size + 1 + 1 + 1) _ 26 := (hoth8 _ (by omega) (fun e => by have := (HOWN.out _ e).1; omega)).trans HZ4.out
  have hb8 : Below w.heap.size w w8 := (HB0.out.trans ((HB1.out.trans (HB17.out.mono hz1)).mono HB0.out.size)).grown hg (by omega) (fun z hz => by have := (HOWN.out z hz).1; omega)
  have hbo1 : w1.heap.size ≠ g1 := by
    rcases hor with h | h
    · have := (HOWN.out _ h).2; omega
    · omega
  clear y5
  have y5 := hbo8.cell (i := 5) rfl
  have f5 := hbo8.frozen 5
  have hl8 := hbo8.lt
  have HFULL := Lib.hid hfull
  have HOTH8 := Lib.hid hoth8
  have HBO8 := Lib.hid hbo8
  have HZ8 := Lib.hid hz8
  have HB8 := Lib.hid hb8
  have hs8 : W7.heap.size ≤ w8.heap.size := hg.size
  clear hfull hg hor hoth8 hbo8 hz8 hb8
  go_wp2
  refine Calm.normal ?_
  generalize hW9 : World.setCell _ _ _ = W9
  have hbo9 : IsBlk W9 w1.heap.size #[.int .u8 6, .bool b, .int .i64 n, .string (bs s), .slice p1 l.length c1, .slice (some ⟨g1, 0, none⟩) 1 cap] 26 := by rw [← hW9]; simpa using HBO8.out.set 5 (.slice (some ⟨g1, 0, none⟩) 1 cap)
  have hoth9 : ∀ z, z ≠ w1.heap.size → W9.heap[z]? = w8.heap[z]? := fun z hz => by rw [← hW9, Below.heap_setCell _ _ _ _ hz]
  have hb9 : Below w.heap.size w W9 := by rw [← hW9]; exact below_set HB8.out (by omega)
  have hz9 : IsBlk W9 (w.heap.size + 1 + 1 + 1) ([.int .u8 0, .bool false, .int .i64 0, .string (bs []), .slice none 0 0, .slice none 0 0] : List Value).toArray 26 := (hoth9 _ (by omega)).trans HZ8.out
  have hs9 : W9.heap.size = w8.heap.size := by rw [← hW9]; simp
  have hend : ∀ W, (∀ z, z ≠ w.heap.size + 1 + 1 + 1 → W.heap[z]? = W9.heap[z]?) → HasVal (fun z => w.heap.size ≤ z) W (.mk 6 b n s l [(name, .mk k1 b1 n1 s1 l1 f1)]) [.int .u8 6, .bool b, .int .i64 n, .string (bs s), .slice p1 l.length c1, .slice (some ⟨g1, 0, none⟩) 1 cap] := by
    intro W ho
    have hF := HFULL.out.kept relF (w' := W) (D' := fun z => W0.heap.size ≤ z) (fun z hz => by
      rcases hz.1 with h | h
      · exact h.1
      · have h6 : W0.heap.size ≤ z := by omega
        exact h6) (fun z hz => by
      have hzg : g1 = z := Option.some.inj hz
      rw [← hzg, ho g1 (by omega), hoth9 g1 (fun e => hbo1 e.symm)]) (fun z hz _ => by
      have h6 : W0.heap.size ≤ z ∧ z ≠ w1.heap.size := by
        rcases hz.1 with h | h
        · exact ⟨h.1, by omega⟩
        · exact ⟨by omega, by omega⟩
      rw [ho z (by omega), hoth9 z h6.2])
    obtain ⟨q2, d2, hv2, b3, b4, hc2⟩ := hF.cells relF (S := fun z => w.heap.size ≤ z) (fun z hz => by have := (hF.lt z hz).1; omega) (fun z hz => by have h6 : W0.heap.size ≤ z := hz; omega)
    obtain ⟨e4, _, e6⟩ := Value.slice.inj hv2
    subst e4
    subst e6
    have hbd := HBD.out
    have hLl : HasL (fun z => (W0.heap.size ≤ z ∧ (Value.slice p2 0 c2).ownBlock ≠ some z) ∧ z < w1.heap.size) w1 p1 l := (RowIn.kept relV (S' := fun z => (W0.heap.size ≤ z ∧ (Value.slice p2 0 c2).ownBlock ≠ some z) ∧ z < w1.heap.size) (fun i hi => by
      obtain ⟨g, o, cs, h1, h2, h3⟩ := HL1.out i hi
      exact ⟨g, o, cs, h1, ⟨⟨h2.1, h2.2.1⟩, h2.2⟩, relV.lt h3⟩) (fun _ h => h) (fun _ _ _ => rfl))
    have hL9 := HasL.ext_to hLl (w' := W) (S' := fun z => w.heap.size ≤ z) (fun z hz => by have := hz.1.1; omega) (fun z hz hlt => by
      have h6 := hz.1.1
      rw [ho z (by omega), hoth9 z (by omega), HOTH8.out z (by have := HB17.out.size; omega) hz.1.2, HB17.out.block z hlt])
    refine hasVal_mk.2 ⟨_, _, _, _, rfl, ⟨hbd.1, hbd.2.1, hbd.2.2.1, hbd.2.2.2.1, hbd.2.2.2.2.1, by simp, hlc, hcm, b3, b4⟩, hL9, hasF_row.2 (fun i hi => ?_)⟩
    obtain ⟨g, cs, x1, x2, x3⟩ := hc2 i hi
    exact ⟨g, 0, cs, x1, x2, x3⟩
  have v0 := hbo9.cell (i := 0) rfl
  have v1 := hbo9.cell (i := 1) rfl
  have v2 := hbo9.cell (i := 2) rfl
  have v3 := hbo9.cell (i := 3) rfl
  have v4 := hbo9.cell (i := 4) rfl
  have v5 := hbo9.cell (i := 5) rfl
  have z0 := hz9.cell (i := 0) rfl
  have z1 := hz9.cell (i := 1) rfl
  have z2 := hz9.cell (i := 2) rfl
  have z3 := hz9.cell (i := 3) rfl
  have z4 := hz9.cell (i := 4) rfl
  have z5 := hz9.cell (i := 5) rfl
  have fz0 := hz9.frozen 0
  have fz1 := hz9.frozen 1
  have fz2 := hz9.frozen 2
  have fz3 := hz9.frozen 3
  have fz4 := hz9.frozen 4
  have fz5 := hz9.frozen 5
  have hl9 := hbo9.lt
  have hlz9 := hz9.lt
  have hze := And.intro (blk_setCells [.int .u8 6, .bool b, .int .i64 n, .string (bs s), .slice p1 l.length c1, .slice (some ⟨g1, 0, none⟩) 1 cap] 0 W9 [.int .u8 0, .bool false, .int .i64 0, .string (bs []), .slice none 0 0, .slice none 0 0] hz9) (And.intro (hend _ (fun z hz => other_setCells hz [.int .u8 6, .bool b, .int .i64 n, .string (bs s), .slice p1 l.length c1, .slice (some ⟨g1, 0, none⟩) 1 cap] 0 W9)) (below_setCells (B := w.heap.size) (w0 := w) (show w.heap.size ≤ w.heap.size + 1 + 1 + 1 by omega) [.int .u8 6, .bool b, .int .i64 n, .string (bs s), .slice p1 l.length c1, .slice (some ⟨g1, 0, none⟩) 1 cap] 0 W9 hb9))
  have HZE := Lib.hid hze
  clear hbo9 hoth9 hb9 hz9 hend hze hW9 y5 f5 hs9
  go_wp2
  exact bodyPost_ret (results_ct (p := 6) (u := 7) (ty := 26) Tryd.results14 rfl HZE.out.1 Tryd.underlying26 rfl (by kernel_rfl) rfl) rfl ⟨[.int .u8 6, .bool b, .int .i64 n, .string (bs s), .slice p1 l.length c1, .slice (some ⟨g1, 0, none⟩) 1 cap], rfl, HZE.out.2.1, HZE.out.2.2⟩
end Go.Proofs.YthcojmpigdojoaaDoor
