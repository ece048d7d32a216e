/- value.Put. Conditions: struct and value lie in memory, the name is no longer than 2^30 bytes, the fields no more than 2^20. -/
import Derived.Test.YthcojmpigdojoaaDoorPutP
set_option linter.unusedVariables false
set_option linter.unusedSimpArgs false
namespace Go.Proofs.YthcojmpigdojoaaDoor
open Go Go.RowKit Go.BigFrame
set_option maxRecDepth 100000

set_option maxHeartbeats 8000000 in
theorem put_any (k : Nat) (b : Bool) (n : Int) (s : List UInt8) (l : List DVal) (f : List (List UInt8 × DVal)) (name : List UInt8) (x : DVal) (S S2 : Nat → Prop) (cs cx : List Value) (w : World) (hv : HasVal S w (.mk k b n s l f) cs) (hx : HasVal S2 w x cx) (hnl : name.length ≤ 1073741824) (hfl : f.length ≤ 1048577) :
    Calls Tryd.prog 14 #[.agg cs.toArray, .string (bs name), .agg cx.toArray] w fun e' w' => ∃ cs', e' = .returned (.tuple #[.agg cs'.toArray, .int .i64 (if k = 6 then 0 else 5)]) ∧ HasVal (fun z => w.heap.size ≤ z) w' (putV name x (.mk k b n s l f)) cs' ∧ OwnRows w.heap.size w' cs' (putV name x (.mk k b n s l f)) ∧ Below w.heap.size w w' := by
  have HV := Lib.hid hv
  have HX := Lib.hid hx
  have hv' := hv
  have hx' := hx
  obtain ⟨R, hR⟩ : ∃ R, R = putV name x (.mk k b n s l f) := ⟨_, rfl⟩
  rw [← hR]
  have HR := Lib.hid hR
  obtain ⟨k1, b1, n1, s1, l1, f1⟩ := x
  obtain ⟨pl, cl, pf, cf, rfl, hbd, _⟩ := hasVal_mk.1 hv'
  obtain ⟨pl1, cl1, pf1, cf1, rfl, _⟩ := hasVal_mk.1 hx'
  have HBD := Lib.hid hbd
  clear hv hx hv' hx' hbd hR
  by_cases hk : k = 6
  case neg =>
    have hkb : ((k : Int) != 6) = true := by simp; omega
    rw [if_neg hk]
    have HZ0 : Hid (R = .zero) := Lib.hid (by rw [HR.out, putV, if_neg hk])
    clear hk
    show Calls Tryd.prog 14 #[.agg #[.int .u8 (k : Int), .bool b, .int .i64 n, .string (bs s), .slice pl l.length cl, .slice pf f.length cf], .string (bs name), .agg #[.int .u8 (k1 : Int), .bool b1, .int .i64 n1, .string (bs s1), .slice pl1 l1.length cl1, .slice pf1 f1.length cf1]] w _
    have hz4 : IsBlk ((((w.alloc (.cells #[.int .u8 (k : Int), .bool b, .int .i64 n, .string (bs s), .slice pl l.length cl, .slice pf f.length cf] 26)).alloc (.cells #[.string (bs name)] 9)).alloc (.cells #[.int .u8 (k1 : Int), .bool b1, .int .i64 n1, .string (bs s1), .slice pl1 l1.length cl1, .slice pf1 f1.length cf1] 26)).alloc (.cells #[.int .u8 0, .bool false, .int .i64 0, .string (bs []), .slice none 0 0, .slice none 0 0] 26)) (w.heap.size + 1 + 1 + 1) #[.int .u8 0, .bool false, .int .i64 0, .string (bs []), .slice none 0 0, .slice none 0 0] 26 := IsBlk.new_at (by simp)
    have hb4 : Below w.heap.size w ((((w.alloc (.cells #[.int .u8 (k : Int), .bool b, .int .i64 n, .string (bs s), .slice pl l.length cl, .slice pf f.length cf] 26)).alloc (.cells #[.string (bs name)] 9)).alloc (.cells #[.int .u8 (k1 : Int), .bool b1, .int .i64 n1, .string (bs s1), .slice pl1 l1.length cl1, .slice pf1 f1.length cf1] 26)).alloc (.cells #[.int .u8 0, .bool false, .int .i64 0, .string (bs []), .slice none 0 0, .slice none 0 0] 26)) := ((((Below.refl _ _).alloc (Nat.le_refl _) _).alloc (by simp) _).alloc (by simp; omega) _).alloc (by simp; omega) _
    have HF := Lib.hid (And.intro hz4 hb4)
    clear hz4 hb4
    go_enter Tryd.func14, Tryd.ntmps14
    go_wp2
    exact bodyPost_ret (results_ct (p := 6) (u := 7) (ty := 26) Tryd.results14 rfl HF.out.1 Tryd.underlying26 rfl (by kernel_rfl) rfl) rfl ⟨[.int .u8 0, .bool false, .int .i64 0, .string (bs []), .slice none 0 0, .slice none 0 0], rfl, by rw [HZ0.out]; exact zero_has' _ _, by rw [HZ0.out]; exact own_zero _ _, HF.out.2⟩
  subst hk
  rw [if_pos rfl]
  show Calls Tryd.prog 14 #[.agg #[.int .u8 6, .bool b, .int .i64 n, .string (bs s), .slice pl l.length cl, .slice pf f.length cf], .string (bs name), .agg #[.int .u8 (k1 : Int), .bool b1, .int .i64 n1, .string (bs s1), .slice pl1 l1.length cl1, .slice pf1 f1.length cf1]] w _
  go_enter Tryd.func14, Tryd.ntmps14
  go_upto_region 1 with (fail)
  generalize hW0 : World.alloc (World.alloc (World.alloc (World.alloc w _) _) _) _ = W0
  have hd1 : IsBlk W0 w.heap.size #[.int .u8 6, .bool b, .int .i64 n, .string (bs s), .slice pl l.length cl, .slice pf f.length cf] 26 := by rw [← hW0]; exact (((IsBlk.new _ _ _).alloc _).alloc _).alloc _
  have hd2 : IsBlk W0 (w.heap.size + 1) #[.string (bs name)] 9 := by rw [← hW0]; exact ((IsBlk.new_at (by simp)).alloc _).alloc _
  have hd3 : IsBlk W0 (w.heap.size + 1 + 1) #[.int .u8 (k1 : Int), .bool b1, .int .i64 n1, .string (bs s1), .slice pl1 l1.length cl1, .slice pf1 f1.length cf1] 26 := by rw [← hW0]; exact (IsBlk.new_at (by simp)).alloc _
  have hd4 : IsBlk W0 (w.heap.size + 1 + 1 + 1) #[.int .u8 0, .bool false, .int .i64 0, .string (bs []), .slice none 0 0, .slice none 0 0] 26 := by rw [← hW0]; exact IsBlk.new_at (by simp)
  have hb0 : Below w.heap.size w W0 := by rw [← hW0]; exact ((((Below.refl _ _).alloc (Nat.le_refl _) _).alloc (by simp) _).alloc (by simp; omega) _).alloc (by simp; omega) _
  have hlt4 : w.heap.size + 1 + 1 + 1 < W0.heap.size := hd4.lt
  clear hW0
  have x0 := hd1.cell (i := 0) rfl
  have x1 := hd1.cell (i := 1) rfl
  have x2 := hd1.cell (i := 2) rfl
  have x3 := hd1.cell (i := 3) rfl
  have x4 := hd1.cell (i := 4) rfl
  have x5 := hd1.cell (i := 5) rfl
  have HD2 := Lib.hid hd2
  have HD3 := Lib.hid hd3
  have HD4 := Lib.hid hd4
  have HB0 := Lib.hid hb0
  have hlt1 := hd1.lt
  clear hd1 hd2 hd3 hd4 hb0
  go_wp2_with fail
  go_at_call 29
  refine (own_any (.mk 6 b n s l f) _ _ W0 (HV.out.ext HB0.out)).mono ?_
  rintro e' w1 ⟨cs', rfl, _, hrows, hb1⟩
  obtain ⟨p1, c1, p2, c2, rfl, hlc, hcm, hnc2, hm2, hst⟩ := st_own hrows
  have hown : ∀ z, (Value.slice p2 f.length c2).ownBlock = some z → W0.heap.size ≤ z ∧ z < w1.heap.size := hst.2.1.lt
  have HST := Lib.hid hst
  have HOWN := Lib.hid hown
  have hz1 := hb1.size
  have HB1 := Lib.hid hb1
  clear hrows hst hown hb1 x0 x1 x2 x3 x4 x5
  go_upto_region 4 with (fail)
  generalize hW2 : World.alloc w1 _ = W2
  have hbo : IsBlk W2 w1.heap.size #[.int .u8 6, .bool b, .int .i64 n, .string (bs s), .slice p1 l.length c1, .slice p2 f.length c2] 26 := by rw [← hW2]; exact IsBlk.new _ _ _
  have hb12 : Below w1.heap.size w1 W2 := by rw [← hW2]; exact (Below.refl _ _).alloc (Nat.le_refl _) _
  have hlo := hbo.lt
  have hb02 : Below W0.heap.size W0 W2 := HB1.out.trans (hb12.mono hz1)
  have hd2 := HD2.out.ext hb02
  have x0 := hd2.cell (i := 0) rfl
  have y5 := hbo.cell (i := 5) rfl
  have hl2 := hd2.lt
  have HBO := Lib.hid hbo
  have HB12 := Lib.hid hb12
  have HB02 := Lib.hid hb02
  have HF2 : Hid (∀ w', Below W2.heap.size W2 w' → HasF (fun _ => True) w' p2 f) := Lib.hid (fun w' hb' => by
    have h := (HST.out.ext (below_ext hb12 hb')).2.1
    obtain ⟨p, c, e, _, _, hc⟩ := h.cells (S := fun _ => True) relF (fun _ _ => trivial) (fun _ _ => trivial)
    obtain ⟨e1, _, _⟩ := Value.slice.inj e
    subst e1
    exact hasF_row.2 (fun i hi => by
      obtain ⟨g, cs, h1, h2, h3⟩ := hc i hi
      exact ⟨g, 0, cs, h1, h2, h3⟩))
  clear hW2 hbo hb12 hb02 hd2
  have hmf : ∀ (fn : Fn) (first cap : Array Value) (w : World), (Instr.makeFunc fn first cap).run Tryd.prog w = .ok (.func fn first cap) w := fun _ _ _ _ => rfl
  obtain ⟨ri, hri⟩ : ∃ r, r = idxI (isName name) 0 f := ⟨_, rfl⟩
  have HRI := Lib.hid hri
  clear hri
  refine mixB_start [] (Cls W2) (by kernel_rfl) (Cls.of ((Below.refl _ _).drew)) (fun hCw => ?_)
  refine mixB_flt (by kernel_rfl) [0, 1, 2] 3 _ _ hCw (by kernel_rfl) ?_
  simp only [opsAt, List.map_cons, List.map_nil, List.toList_toArray, List.getD_cons_succ, List.getD_cons_zero]
  unfold Cls
  repeat (go_big_quiet_step (fail))
  refine wpQuiet_nil ?_
  (try rw [← Cls_def])
  refine mixB_ch (i := 3) (fuel := 2) (by kernel_rfl) (by kernel_rfl) ?_
  simp only [opsAt, List.map_cons, List.map_nil, List.toList_toArray, List.getD_cons_succ, List.getD_cons_zero]
  go_wp2_with (go_at_call 31; refine (named_any name _).mono ?_; rintro e' w3 ⟨gn, rfl, hgn, hcn, hb3⟩; have hC3 := hCw.trans hb3)
  refine ThenB.mk (hCw.trans hb3) (fun hCw => ?_)
  refine mixB_ch (i := 4) (fuel := 1) (by kernel_rfl) (by kernel_rfl) ?_
  simp only [opsAt, List.map_cons, List.map_nil, List.toList_toArray, List.getD_cons_succ, List.getD_cons_zero]
  go_wp2_with (go_at_call 30; refine (idx_named name f _ p2 c2 gn w3 (HF2.out _ hC3.below) (by omega) hgn hcn).mono ?_; rintro e' w4 ⟨he4, hb4⟩; rw [← HRI.out] at he4; subst he4)
  refine ThenB.mk (hCw.trans hb4) (fun hCw => ?_)
  refine mixB_flt (by kernel_rfl) [5] 0 _ _ hCw (by kernel_rfl) ?_
  simp only [opsAt, List.map_cons, List.map_nil, List.toList_toArray, List.getD_cons_succ, List.getD_cons_zero]
  unfold Cls
  repeat (go_big_quiet_step (fail))
  refine wpQuiet_nil ?_
  (try rw [← Cls_def])
  refine mixB_end [] (by kernel_rfl) ?_
  refine wpList_nil ?_
  refine Calm.normal ?_
  have hb24 := hCw.below
  have HB24 := Lib.hid hb24
  have hz4 := hb24.size
  have hd24 := HD2.out.ext (HB02.out.trans (hb24.mono HB02.out.size))
  have hbo4 := HBO.out.ext hb24
  have y5 := hbo4.cell (i := 5) rfl
  have hl4 := hbo4.lt
  have HN4 := Lib.hid (hd24.cell (i := 0) rfl)
  have hn4 := hd24.lt
  clear hCw hC3 hb3 hb4 hgn hcn x0 hb24 hd24 hbo4 hlo hl2
  rcases idxI_spec (isName name) f 0 with ⟨e1, hall⟩ | ⟨i0, hi0, e1, hP, hall⟩
  · have hany : (f.any fun p => isName name p.1) = false := any_none hall
    have HRF : Hid (R = .mk 6 b n s l (insF name (.mk k1 b1 n1 s1 l1 f1) f)) := Lib.hid (by rw [HR.out, putV, if_pos rfl, putF, hany, if_neg (by decide)])
    have hrim : ri = -1 := by rw [HRI.out, e1]
    subst hrim
    clear hall e1 hany HRI
    go_wp2_with fail
    go_at_call 30
    refine (idx_above name f _ p2 c2 (w.heap.size + 1) w4 (HF2.out _ HB24.out) (by omega) hn4 HN4.out).mono ?_
    rintro e' w5 ⟨he5, hb5⟩
    obtain ⟨i, hi, hins, hpos⟩ : ∃ i : Nat, i ≤ f.length ∧ insF name (.mk k1 b1 n1 s1 l1 f1) f = f.take i ++ (name, .mk k1 b1 n1 s1 l1 f1) :: f.drop i ∧ ((e' = .returned (.int .i64 (-1)) ∧ i = f.length) ∨ e' = .returned (.int .i64 (i : Int))) := by
      rcases idxI_spec (isAbove name) f 0 with ⟨e1, hall⟩ | ⟨j, hj, e1, hP, hall⟩
      · exact ⟨f.length, Nat.le_refl _, by rw [ins_end _ _ _ hall, List.take_length, List.drop_length], .inl ⟨by rw [he5, e1], rfl⟩⟩
      · exact ⟨j, by omega, ins_idx _ _ _ _ hj hP hall, .inr (by rw [he5, e1, Nat.zero_add])⟩
    have HINS := Lib.hid hins
    have hineg : ¬ ((i : Int) < 0) := by omega
    have hiI : (i : Int) ≤ (f.length : Int) := by omega
    clear hins he5
    rcases hpos with ⟨rfl, rfl⟩ | rfl
    all_goals
      have HB25 := Lib.hid (below_ext HB24.out hb5)
      have hz5 := hb5.size
      have hbo5 := HBO.out.ext HB25.out
      have y5 := hbo5.cell (i := 5) rfl
      have hl5 := hbo5.lt
      have hb05 := HB02.out.trans (HB25.out.mono HB02.out.size)
      have HB05 := Lib.hid hb05
      have hd25 := HD2.out.ext hb05
      have hd35 := HD3.out.ext hb05
      have x0 := hd25.cell (i := 0) rfl
      have hl25 := hd25.lt
      have u0 := hd35.cell (i := 0) rfl
      have u1 := hd35.cell (i := 1) rfl
      have u2 := hd35.cell (i := 2) rfl
      have u3 := hd35.cell (i := 3) rfl
      have u4 := hd35.cell (i := 4) rfl
      have u5 := hd35.cell (i := 5) rfl
      have hl35 := hd35.lt
      clear hb5 hl4 hn4 hbo5 hd25 hd35 hb05
      go_upto_region 11 with (fail)
      refine mixB_start [8, 9, 10] (Cls w5) (by kernel_rfl) (Cls.of ((Below.refl _ _).drew)) (fun hCw => ?_)
      refine mixB_flt (by kernel_rfl) [0, 1, 2, 3, 4] 6 _ _ hCw (by kernel_rfl) ?_
      simp only [opsAt, List.map_cons, List.map_nil, List.toList_toArray, List.getD_cons_succ, List.getD_cons_zero]
      unfold Cls
      repeat (go_big_quiet_step (fail))
      refine wpQuiet_nil ?_
      (try rw [← Cls_def])
      refine mixB_ch (i := 5) (fuel := 5) (by kernel_rfl) (by kernel_rfl) ?_
      simp only [opsAt, List.map_cons, List.map_nil, List.toList_toArray, List.getD_cons_succ, List.getD_cons_zero]
      go_wp2_with (go_at_call 29; refine (own_any (.mk k1 b1 n1 s1 l1 f1) _ _ _ ((HX.out.ext HB0.out).ext (HB05.out.trans (hCw.below.mono HB05.out.size)))).mono ?_; rintro e' w6 ⟨csx, rfl, hvx, _, hb6⟩; obtain ⟨px, cx', pfx, cfx, rfl, _⟩ := hasVal_mk.1 hvx; have hC6 := hCw.trans hb6; have hCw0 := hC6)
      refine ThenB.mk (hCw.trans hb6) (fun hCw => ?_)
      refine mixB_flt (by kernel_rfl) [6] 4 _ _ hCw (by kernel_rfl) ?_
      simp only [opsAt, List.map_cons, List.map_nil, List.toList_toArray, List.getD_cons_succ, List.getD_cons_zero]
      unfold Cls
      repeat (go_big_quiet_step (fail))
      refine wpQuiet_nil ?_
      (try rw [← Cls_def])
      refine mixB_ch (i := 7) (fuel := 3) (by kernel_rfl) (by kernel_rfl) ?_
      simp only [opsAt, List.map_cons, List.map_nil, List.toList_toArray, List.getD_cons_succ, List.getD_cons_zero]
      go_wp2_with (fail)
      refine ThenB.mk (hC6.trans ((Below.refl _ _).alloc (Nat.le_refl _) _)) (fun hCw => ?_)
      refine mixB_end [8, 9, 10] (by kernel_rfl) ?_
      simp only [opsAt, List.map_cons, List.map_nil, List.toList_toArray, List.getD_cons_succ, List.getD_cons_zero]
      have hb56 : Below w5.heap.size w5 w6 := hCw0.below
      have hz6 := hb56.size
      have hvx' : HasVal (fun z => w5.heap.size ≤ z) w6 (.mk k1 b1 n1 s1 l1 f1) [.int .u8 (k1 : Int), .bool b1, .int .i64 n1, .string (bs s1), .slice px l1.length cx', .slice pfx f1.length cfx] := hvx
      have hvx2 := relV.lt hvx'
      generalize hW7 : World.alloc w6 _ = W7
      have hfl7 : IsBlk W7 w6.heap.size (.string (bs name) :: [.int .u8 (k1 : Int), .bool b1, .int .i64 n1, .string (bs s1), .slice px l1.length cx', .slice pfx f1.length cfx]).toArray 38 := by rw [← hW7]; exact IsBlk.new _ _ _
      have hb67 : Below w6.heap.size w6 W7 := by rw [← hW7]; exact (Below.refl _ _).alloc (Nat.le_refl _) _
      have hb57 := hb56.trans (hb67.mono hz6)
      have hb27 := below_ext HB25.out hb57
      have hb17 := below_ext HB12.out hb27
      have hz7 := hb67.size
      have hsz51 : w1.heap.size ≤ w5.heap.size := by have h1 := HB12.out.size; have h2 := HB25.out.size; omega
      have hst7 : StF W0.heap.size (fun z => ((W0.heap.size ≤ z ∧ (Value.slice p2 f.length c2).ownBlock ≠ some z) ∧ z < w1.heap.size) ∨ (w5.heap.size ≤ z ∧ z < w6.heap.size)) W7 p1 l (.slice p2 f.length c2) f := (HST.out.ext hb17).more (fun z hz => .inl hz) (fun z hz => by
        rcases hz with hz | hz
        · exact hz.1
        · exact ⟨by omega, fun e => by have := (HOWN.out z e).2; omega⟩)
      have hc := insert_any f _ hi W0.heap.size (.slice p2 f.length c2) (name, .mk k1 b1 n1 s1 l1 f1) w6.heap.size (.string (bs name) :: [.int .u8 (k1 : Int), .bool b1, .int .i64 n1, .string (bs s1), .slice px l1.length cx', .slice pfx f1.length cfx]) W7 (fun z => ((W0.heap.size ≤ z ∧ (Value.slice p2 f.length c2).ownBlock ≠ some z) ∧ z < w1.heap.size) ∨ (w5.heap.size ≤ z ∧ z < w6.heap.size)) hst7.2.1 (fun z hz => (hst7.2.2 z hz).2) hfl7 (fun e => by have := (HOWN.out _ e).2; omega) ⟨_, rfl, hnl, hvx2.ext_to (fun z hz => .inr hz) (fun z hz hlt => hb67.block z hlt)⟩ (by omega) (by omega)
      have HC := Lib.hid hc
      have HST7 := Lib.hid hst7
      have HB17 := Lib.hid hb17
      have HB27 := Lib.hid hb27
      have hbo7 := HBO.out.ext hb27
      have y5 := hbo7.cell (i := 5) rfl
      have hl7 := hbo7.lt
      have HZ4 := Lib.hid (HD4.out.ext (HB02.out.trans (hb27.mono HB02.out.size)))
      clear hb56 hvx hvx' hvx2 hW7 hfl7 hb67 hb57 hb27 hb17 hst7 hc hbo7 hCw hCw0 hC6 hb6 x0 u0 u1 u2 u3 u4 u5 hl25 hl35
      go_wp2_with fail
      go_at_call 33
      refine HC.out.mono ?_
      rintro e' w8 ⟨g1, cap, rfl, hfull, hg, hBg, hg1, hor⟩
      have hoth8 : ∀ z, z < W7.heap.size → (Value.slice p2 f.length c2).ownBlock ≠ some z → w8.heap[z]? = W7.heap[z]? := fun z hz hne => hg.block z hz (fun e => hne e.symm)
      have hbo8 : IsBlk w8 w1.heap.size _ 26 := (hoth8 _ hl7 (fun e => by have := (HOWN.out _ e).2; omega)).trans (HBO.out.ext HB27.out)
      have hz8 : IsBlk w8 (w.heap.size + 1 + 1 + 1) _ 26 := (hoth8 _ (by omega) (fun e => by have := (HOWN.out _ e).1; omega)).trans HZ4.out
      have hb8 : Below w.heap.size w w8 := (HB0.out.trans ((HB1.out.trans (HB17.out.mono hz1)).mono HB0.out.size)).grown hg (by omega) (fun z hz => by have := (HOWN.out z hz).1; omega)
      have hbo1 : w1.heap.size ≠ g1 := by
        rcases hor with h | h
        · have := (HOWN.out _ h).2; omega
        · omega
      clear y5
      have y5 := hbo8.cell (i := 5) rfl
      have f5 := hbo8.frozen 5
      have hl8 := hbo8.lt
      rw [← HINS.out] at hfull
      have hst8 : StF W0.heap.size (fun z => ((W0.heap.size ≤ z ∧ (Value.slice p2 f.length c2).ownBlock ≠ some z) ∧ z < w1.heap.size) ∨ (w5.heap.size ≤ z ∧ z < w6.heap.size)) w8 p1 l (.slice (some ⟨g1, 0, none⟩) (f.length + 1) cap) (insF name (.mk k1 b1 n1 s1 l1 f1) f) :=
        ⟨HST7.out.1.ext_to (fun _ h => h) (fun z hz hlt => hoth8 z hlt (HST7.out.2.2 z hz).2), hfull.kept relF (fun _ h => h.1) (fun _ _ => rfl) (fun _ _ _ => rfl), fun z hz => ⟨(HST7.out.2.2 z hz).1, fun e => by
          have e2 : g1 = z := Option.some.inj e
          rcases hor with h | h
          · exact (HST7.out.2.2 z hz).2 (by rw [← e2]; exact h)
          · rcases hz with hz | hz
            · omega
            · omega⟩⟩
      have HST8 := Lib.hid hst8
      have HOTH8 := Lib.hid hoth8
      have HBO8 := Lib.hid hbo8
      have HZ8 := Lib.hid hz8
      have HB8 := Lib.hid hb8
      have hs8 : W7.heap.size ≤ w8.heap.size := hg.size
      clear hfull hg hor hoth8 hbo8 hz8 hb8 hst8
      go_wp2
      refine Calm.normal ?_
      generalize hW9 : World.setCell _ _ _ = W9
      have hbo9 : IsBlk W9 w1.heap.size #[.int .u8 6, .bool b, .int .i64 n, .string (bs s), .slice p1 l.length c1, .slice (some ⟨g1, 0, none⟩) (f.length + 1) cap] 26 := by rw [← hW9]; simpa using HBO8.out.set 5 (.slice (some ⟨g1, 0, none⟩) (f.length + 1) cap)
      have hoth9 : ∀ z, z ≠ w1.heap.size → W9.heap[z]? = w8.heap[z]? := fun z hz => by rw [← hW9, Below.heap_setCell _ _ _ _ hz]
      have hb9 : Below w.heap.size w W9 := by rw [← hW9]; exact below_set HB8.out (by omega)
      have hz9 : IsBlk W9 (w.heap.size + 1 + 1 + 1) ([.int .u8 0, .bool false, .int .i64 0, .string (bs []), .slice none 0 0, .slice none 0 0] : List Value).toArray 26 := (hoth9 _ (by omega)).trans HZ8.out
      have hs9 : W9.heap.size = w8.heap.size := by rw [← hW9]; simp
      have hend : ∀ W, (∀ z, z ≠ w.heap.size + 1 + 1 + 1 → W.heap[z]? = W9.heap[z]?) → HasVal (fun z => w.heap.size ≤ z) W R [.int .u8 6, .bool b, .int .i64 n, .string (bs s), .slice p1 l.length c1, .slice (some ⟨g1, 0, none⟩) (f.length + 1) cap] ∧ OwnRows w.heap.size W [.int .u8 6, .bool b, .int .i64 n, .string (bs s), .slice p1 l.length c1, .slice (some ⟨g1, 0, none⟩) (f.length + 1) cap] R := by
        intro W ho
        rw [HRF.out]
        have hbd := HBD.out
        have hstW : StF W0.heap.size (fun z => ((W0.heap.size ≤ z ∧ (Value.slice p2 f.length c2).ownBlock ≠ some z) ∧ z < w1.heap.size) ∨ (w5.heap.size ≤ z ∧ z < w6.heap.size)) W p1 l (.slice (some ⟨g1, 0, none⟩) (f.length + 1) cap) (insF name (.mk k1 b1 n1 s1 l1 f1) f) := HST8.out.kept (fun z hz => by
          have e2 : g1 = z := Option.some.inj hz
          rw [← e2, ho g1 (by omega), hoth9 g1 (fun e => hbo1 e.symm)]) (fun z hz _ => by
          have h6 : W0.heap.size ≤ z ∧ z ≠ w1.heap.size := by
            rcases hz with h | h
            · exact ⟨h.1.1, by omega⟩
            · exact ⟨by omega, by omega⟩
          rw [ho z (by omega), hoth9 z h6.2])
        exact st_fin hstW (insF_length _ _ _).symm ⟨hbd.1, hbd.2.1, hbd.2.2.1, hbd.2.2.2.1, hbd.2.2.2.2.1⟩ hlc hcm (by rw [insF_length]; omega) (B' := w.heap.size) (by omega)
      have v0 := hbo9.cell (i := 0) rfl
      have v1 := hbo9.cell (i := 1) rfl
      have v2 := hbo9.cell (i := 2) rfl
      have v3 := hbo9.cell (i := 3) rfl
      have v4 := hbo9.cell (i := 4) rfl
      have v5 := hbo9.cell (i := 5) rfl
      have z0 := hz9.cell (i := 0) rfl
      have z1 := hz9.cell (i := 1) rfl
      have z2 := hz9.cell (i := 2) rfl
      have z3 := hz9.cell (i := 3) rfl
      have z4 := hz9.cell (i := 4) rfl
      have z5 := hz9.cell (i := 5) rfl
      have fz0 := hz9.frozen 0
      have fz1 := hz9.frozen 1
      have fz2 := hz9.frozen 2
      have fz3 := hz9.frozen 3
      have fz4 := hz9.frozen 4
      have fz5 := hz9.frozen 5
      have hl9 := hbo9.lt
      have hlz9 := hz9.lt
      have hze := And.intro (blk_setCells [.int .u8 6, .bool b, .int .i64 n, .string (bs s), .slice p1 l.length c1, .slice (some ⟨g1, 0, none⟩) (f.length + 1) cap] 0 W9 [.int .u8 0, .bool false, .int .i64 0, .string (bs []), .slice none 0 0, .slice none 0 0] hz9) (And.intro (hend _ (fun z hz => other_setCells hz [.int .u8 6, .bool b, .int .i64 n, .string (bs s), .slice p1 l.length c1, .slice (some ⟨g1, 0, none⟩) (f.length + 1) cap] 0 W9)) (below_setCells (B := w.heap.size) (w0 := w) (show w.heap.size ≤ w.heap.size + 1 + 1 + 1 by omega) [.int .u8 6, .bool b, .int .i64 n, .string (bs s), .slice p1 l.length c1, .slice (some ⟨g1, 0, none⟩) (f.length + 1) cap] 0 W9 hb9))
      have HFN := Lib.hid hze
      clear hbo9 hoth9 hb9 hz9 hend hze hW9 y5 f5 hs9
      go_wp2
      exact bodyPost_ret (results_ct (p := 6) (u := 7) (ty := 26) Tryd.results14 rfl HFN.out.1 Tryd.underlying26 rfl (by kernel_rfl) rfl) rfl ⟨[.int .u8 6, .bool b, .int .i64 n, .string (bs s), .slice p1 l.length c1, .slice (some ⟨g1, 0, none⟩) (f.length + 1) cap], rfl, HFN.out.2.1.1, HFN.out.2.1.2, HFN.out.2.2⟩
  · have hpf := putF_any hi0 hP
    have HRF : Hid (R = .mk 6 b n s l (f.set i0 (f[i0].1, .mk k1 b1 n1 s1 l1 f1))) := Lib.hid (by rw [HR.out, putV, if_pos rfl, putF, if_pos hpf, set_idx _ _ _ _ hi0 hP hall])
    have hrim : ri = (i0 : Int) := by rw [HRI.out, e1, Nat.zero_add]
    subst hrim
    obtain ⟨g, cap, co, hv2, _, hgl, hnc, _, hfo, hcl7, hcells, hfz⟩ := (half_of_full HST.out.2.1 i0).next hi0
    obtain ⟨e2, _, e3⟩ := Value.slice.inj hv2
    subst e2
    subst e3
    have hgo := HOWN.out g rfl
    obtain ⟨co2, rfl, hol, hov⟩ := hfo
    have hd34 := HD3.out.ext (HB02.out.trans (HB24.out.mono HB02.out.size))
    have u0 := hd34.cell (i := 0) rfl
    have u1 := hd34.cell (i := 1) rfl
    have u2 := hd34.cell (i := 2) rfl
    have u3 := hd34.cell (i := 3) rfl
    have u4 := hd34.cell (i := 4) rfl
    have u5 := hd34.cell (i := 5) rfl
    have hl34 := hd34.lt
    have HCE := Lib.hid hcells
    have HFZ := Lib.hid hfz
    have hge : (0 : Int) ≤ (i0 : Int) := by omega
    have hltI : (i0 : Int) < (f.length : Int) := by omega
    have hB14 : Below w1.heap.size w1 w4 := below_ext HB12.out HB24.out
    have HB14 := Lib.hid hB14
    have hcol : co2.length = 6 := by simpa using hcl7
    obtain ⟨o0, o1, o2, o3, o4, o5, rfl⟩ : ∃ o0 o1 o2 o3 o4 o5, co2 = [o0, o1, o2, o3, o4, o5] := by
      match co2, hcol with
      | [o0, o1, o2, o3, o4, o5], _ => exact ⟨_, _, _, _, _, _, rfl⟩
    clear hpf hall e1 hP HRI hd34 hcells hfz hcl7 hv2 hov hol hcol hB14
    go_upto_region 6 with (fail)
    refine mixB_start [7] (Cls w4) (by kernel_rfl) (Cls.of ((Below.refl _ _).drew)) (fun hCw => ?_)
    refine mixB_flt (by kernel_rfl) [0, 1, 2, 3] 4 _ _ hCw (by kernel_rfl) ?_
    simp only [opsAt, List.map_cons, List.map_nil, List.toList_toArray, List.getD_cons_succ, List.getD_cons_zero]
    unfold Cls
    repeat (go_big_quiet_step (fail))
    refine wpQuiet_nil ?_
    (try rw [← Cls_def])
    refine mixB_ch (i := 4) (fuel := 3) (by kernel_rfl) (by kernel_rfl) ?_
    simp only [opsAt, List.map_cons, List.map_nil, List.toList_toArray, List.getD_cons_succ, List.getD_cons_zero]
    go_wp2_with (go_at_call 29; refine (own_any (.mk k1 b1 n1 s1 l1 f1) _ _ _ ((HX.out.ext HB0.out).ext ((HB02.out.trans (HB24.out.mono HB02.out.size)).trans (hCw.below.mono (by have := HB02.out.size; omega))))).mono ?_; rintro e' w6 ⟨csx, rfl, hvx, _, hb6⟩; obtain ⟨px, cx', pfx, cfx, rfl, _⟩ := hasVal_mk.1 hvx; have hC6 := hCw.trans hb6)
    refine ThenB.mk (hC6) (fun hCw => ?_)
    refine mixB_flt (by kernel_rfl) [5, 6] 1 _ _ hCw (by kernel_rfl) ?_
    simp only [opsAt, List.map_cons, List.map_nil, List.toList_toArray, List.getD_cons_succ, List.getD_cons_zero]
    unfold Cls
    repeat (go_big_quiet_step (fail))
    refine wpQuiet_nil ?_
    (try rw [← Cls_def])
    refine mixB_end [7] (by kernel_rfl) ?_
    simp only [opsAt, List.map_cons, List.map_nil, List.toList_toArray, List.getD_cons_succ, List.getD_cons_zero]
    have hb46 : Below w4.heap.size w4 w6 := hC6.below
    have hz6 := hb46.size
    have hb16 := below_ext HB14.out hb46
    have hvx2 : HasVal (fun z => w4.heap.size ≤ z ∧ z < w6.heap.size) w6 (.mk k1 b1 n1 s1 l1 f1) [.int .u8 (k1 : Int), .bool b1, .int .i64 n1, .string (bs s1), .slice px l1.length cx', .slice pfx f1.length cfx] := relV.lt (show HasVal (fun z => w4.heap.size ≤ z) w6 _ _ from hvx)
    have x0 := (hb16.cell (p := ⟨g, i0 * 7 + 1, none⟩) hgl).trans (HCE.out 1 (by omega))
    have x1 := (hb16.cell (p := ⟨g, i0 * 7 + 2, none⟩) hgl).trans (HCE.out 2 (by omega))
    have x2 := (hb16.cell (p := ⟨g, i0 * 7 + 3, none⟩) hgl).trans (HCE.out 3 (by omega))
    have x3 := (hb16.cell (p := ⟨g, i0 * 7 + 4, none⟩) hgl).trans (HCE.out 4 (by omega))
    have x4 := (hb16.cell (p := ⟨g, i0 * 7 + 5, none⟩) hgl).trans (HCE.out 5 (by omega))
    have x5 := (hb16.cell (p := ⟨g, i0 * 7 + 6, none⟩) hgl).trans (HCE.out 6 (by omega))
    have hgb := hb16.block g hgl
    have z0 := (frozen_block (o := i0 * 7 + 1) hgb).trans (HFZ.out _)
    have z1 := (frozen_block (o := i0 * 7 + 2) hgb).trans (HFZ.out _)
    have z2 := (frozen_block (o := i0 * 7 + 3) hgb).trans (HFZ.out _)
    have z3 := (frozen_block (o := i0 * 7 + 4) hgb).trans (HFZ.out _)
    have z4 := (frozen_block (o := i0 * 7 + 5) hgb).trans (HFZ.out _)
    have z5 := (frozen_block (o := i0 * 7 + 6) hgb).trans (HFZ.out _)
    have hz14 : w1.heap.size ≤ w4.heap.size := HB14.out.size
    have hst6 : StF W0.heap.size (fun z => ((W0.heap.size ≤ z ∧ (Value.slice (some ⟨g, 0, none⟩) f.length c2).ownBlock ≠ some z) ∧ z < w1.heap.size) ∨ (w4.heap.size ≤ z ∧ z < w6.heap.size)) w6 p1 l (.slice (some ⟨g, 0, none⟩) f.length c2) f := (HST.out.ext hb16).more (fun z hz => .inl hz) (fun z hz => by
      rcases hz with hz | hz
      · exact hz.1
      · exact ⟨by omega, fun e => by have := (HOWN.out z e).2; omega⟩)
    have hDg : ∀ z, (fun z => ((W0.heap.size ≤ z ∧ (Value.slice (some ⟨g, 0, none⟩) f.length c2).ownBlock ≠ some z) ∧ z < w1.heap.size) ∨ (w4.heap.size ≤ z ∧ z < w6.heap.size)) z → z ≠ g := fun z hz e => (hst6.2.2 z hz).2 (by rw [e]; rfl)
    have hset := hst6.2.1.setV hi0 (hvx2.ext_to (fun z hz => .inr hz) (fun _ _ _ => rfl)) hDg
    have hst9 : StF W0.heap.size (fun z => ((W0.heap.size ≤ z ∧ (Value.slice (some ⟨g, 0, none⟩) f.length c2).ownBlock ≠ some z) ∧ z < w1.heap.size) ∨ (w4.heap.size ≤ z ∧ z < w6.heap.size)) (w6.setCells g (i0 * 7 + 1) [.int .u8 (k1 : Int), .bool b1, .int .i64 n1, .string (bs s1), .slice px l1.length cx', .slice pfx f1.length cfx]) p1 l (.slice (some ⟨g, 0, none⟩) f.length c2) (f.set i0 (f[i0].1, .mk k1 b1 n1 s1 l1 f1)) :=
      ⟨hst6.1.ext_to (fun _ h => h) (fun z hz _ => other_setCells (hDg z hz) _ _ _), hset, hst6.2.2⟩
    have hbo6 := HBO.out.ext (below_ext HB24.out hb46)
    have hbo9 : IsBlk (w6.setCells g (i0 * 7 + 1) [.int .u8 (k1 : Int), .bool b1, .int .i64 n1, .string (bs s1), .slice px l1.length cx', .slice pfx f1.length cfx]) w1.heap.size #[.int .u8 6, .bool b, .int .i64 n, .string (bs s), .slice p1 l.length c1, .slice (some ⟨g, 0, none⟩) f.length c2] 26 := (other_setCells (by omega) _ _ _).trans hbo6
    have hz49 : IsBlk (w6.setCells g (i0 * 7 + 1) [.int .u8 (k1 : Int), .bool b1, .int .i64 n1, .string (bs s1), .slice px l1.length cx', .slice pfx f1.length cfx]) (w.heap.size + 1 + 1 + 1) ([.int .u8 0, .bool false, .int .i64 0, .string (bs []), .slice none 0 0, .slice none 0 0] : List Value).toArray 26 := (other_setCells (by omega) _ _ _).trans (HD4.out.ext (HB02.out.trans ((HB24.out.trans (hb46.mono (by omega))).mono HB02.out.size)))
    have hb9 : Below w.heap.size w (w6.setCells g (i0 * 7 + 1) [.int .u8 (k1 : Int), .bool b1, .int .i64 n1, .string (bs s1), .slice px l1.length cx', .slice pfx f1.length cfx]) := below_setCells (by omega) _ _ _ (HB0.out.trans ((HB1.out.trans (hb16.mono hz1)).mono HB0.out.size))
    have hs9 : (w6.setCells g (i0 * 7 + 1) [.int .u8 (k1 : Int), .bool b1, .int .i64 n1, .string (bs s1), .slice px l1.length cx', .slice pfx f1.length cfx]).heap.size = w6.heap.size := size_setCells _ _ _ _
    obtain ⟨W9, hW9⟩ : ∃ W9, W9 = w6.setCells g (i0 * 7 + 1) [.int .u8 (k1 : Int), .bool b1, .int .i64 n1, .string (bs s1), .slice px l1.length cx', .slice pfx f1.length cfx] := ⟨_, rfl⟩
    rw [← hW9] at hst9 hbo9 hz49 hb9 hs9
    have HF9 := Lib.hid (And.intro hst9 (And.intro hbo9 (And.intro hz49 (And.intro hb9 hs9))))
    have HW9 := Lib.hid hW9
    clear hst9 hbo9 hz49 hb9 hs9 hW9 hset hDg hst6 hbo6 hgb hvx2 hvx hb6 hCw u0 u1 u2 u3 u4 u5 hb46 hb16
    go_wp2
    refine Calm.normal ?_
    clear x0 x1 x2 x3 x4 x5 z0 z1 z2 z3 z4 z5
    generalize hW8 : World.setCell _ _ _ = W8
    have e9 : W9 = W8 := by rw [HW9.out, ← hW8]; rfl
    subst e9
    clear hW8
    obtain ⟨hst9, hbo9, hz9, hb9, hs9⟩ := HF9.out
    have hend : ∀ W, (∀ z, z ≠ w.heap.size + 1 + 1 + 1 → W.heap[z]? = W9.heap[z]?) → HasVal (fun z => w.heap.size ≤ z) W R [.int .u8 6, .bool b, .int .i64 n, .string (bs s), .slice p1 l.length c1, .slice (some ⟨g, 0, none⟩) f.length c2] ∧ OwnRows w.heap.size W [.int .u8 6, .bool b, .int .i64 n, .string (bs s), .slice p1 l.length c1, .slice (some ⟨g, 0, none⟩) f.length c2] R := by
      intro W ho
      rw [HRF.out]
      have hbd := HBD.out
      have hstW := hst9.kept (w' := W) (fun z hz => ho z (by have := (HOWN.out z hz).1; omega)) (fun z hz _ => ho z (by have := (hst9.2.2 z hz).1; omega))
      exact st_fin hstW (by rw [List.length_set]) ⟨hbd.1, hbd.2.1, hbd.2.2.1, hbd.2.2.2.1, hbd.2.2.2.2.1⟩ hlc hcm (by rw [List.length_set]; omega) (B' := w.heap.size) (by omega)
    have v0 := hbo9.cell (i := 0) rfl
    have v1 := hbo9.cell (i := 1) rfl
    have v2 := hbo9.cell (i := 2) rfl
    have v3 := hbo9.cell (i := 3) rfl
    have v4 := hbo9.cell (i := 4) rfl
    have v5 := hbo9.cell (i := 5) rfl
    have z0 := hz9.cell (i := 0) rfl
    have z1 := hz9.cell (i := 1) rfl
    have z2 := hz9.cell (i := 2) rfl
    have z3 := hz9.cell (i := 3) rfl
    have z4 := hz9.cell (i := 4) rfl
    have z5 := hz9.cell (i := 5) rfl
    have fz0 := hz9.frozen 0
    have fz1 := hz9.frozen 1
    have fz2 := hz9.frozen 2
    have fz3 := hz9.frozen 3
    have fz4 := hz9.frozen 4
    have fz5 := hz9.frozen 5
    have hl9 := hbo9.lt
    have hlz9 := hz9.lt
    have hze := And.intro (blk_setCells [.int .u8 6, .bool b, .int .i64 n, .string (bs s), .slice p1 l.length c1, .slice (some ⟨g, 0, none⟩) f.length c2] 0 W9 [.int .u8 0, .bool false, .int .i64 0, .string (bs []), .slice none 0 0, .slice none 0 0] hz9) (And.intro (hend _ (fun z hz => other_setCells hz [.int .u8 6, .bool b, .int .i64 n, .string (bs s), .slice p1 l.length c1, .slice (some ⟨g, 0, none⟩) f.length c2] 0 W9)) (below_setCells (B := w.heap.size) (w0 := w) (show w.heap.size ≤ w.heap.size + 1 + 1 + 1 by omega) [.int .u8 6, .bool b, .int .i64 n, .string (bs s), .slice p1 l.length c1, .slice (some ⟨g, 0, none⟩) f.length c2] 0 W9 hb9))
    have HFN := Lib.hid hze
    clear hbo9 hb9 hz9 hend hze hst9 HF9 HW9 hs9
    go_wp2
    exact bodyPost_ret (results_ct (p := 6) (u := 7) (ty := 26) Tryd.results14 rfl HFN.out.1 Tryd.underlying26 rfl (by kernel_rfl) rfl) rfl ⟨[.int .u8 6, .bool b, .int .i64 n, .string (bs s), .slice p1 l.length c1, .slice (some ⟨g, 0, none⟩) f.length c2], rfl, HFN.out.2.1.1, HFN.out.2.1.2, HFN.out.2.2⟩
end Go.Proofs.YthcojmpigdojoaaDoor
