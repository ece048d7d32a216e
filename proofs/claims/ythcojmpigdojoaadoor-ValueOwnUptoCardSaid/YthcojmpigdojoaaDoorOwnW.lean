/- value.own and value.Get at an empty path: the list's row may be written, too. Condition: the value lies in memory. -/
import Derived.Test.YthcojmpigdojoaaDoorPutP
import Derived.Test.YthcojmpigdojoaaDoorGetV
set_option linter.unusedVariables false
set_option linter.unusedSimpArgs false
namespace Go.Proofs.YthcojmpigdojoaaDoor
open Go Go.RowKit Go.BigFrame
set_option maxRecDepth 100000

/-- The list's row is not frozen. -/
def FreeL (B : Nat) (w : World) (cs : List Value) : Prop := ∀ p n c q m d, cs[4]? = some (.slice p n c) → cs[5]? = some (.slice q m d) → (p = none ∧ n = 0) ∨ ∃ g cur t, p = some ⟨g, 0, none⟩ ∧ B ≤ g ∧ IsBlk w g cur t ∧ n * 6 ≤ cur.size ∧ (Value.slice q m d).ownBlock ≠ some g
theorem FreeL.kept {B : Nat} {w w' : World} {cs : List Value} (h : FreeL B w cs) (hk : ∀ z, B ≤ z → z < w.heap.size → w'.heap[z]? = w.heap[z]?) : FreeL B w' cs := fun p n c q m d hc hd => by
  rcases h p n c q m d hc hd with h | ⟨g, cur, t, h1, h2, h3, h4⟩
  · exact .inl h
  · exact .inr ⟨g, cur, t, h1, h2, (hk g h2 h3.lt).trans h3, h4⟩
theorem free_base {B B' : Nat} {w : World} {cs : List Value} (h : FreeL B w cs) (hB : B' ≤ B) : FreeL B' w cs := fun p n c q m d hc hd => by
  rcases h p n c q m d hc hd with h | ⟨g, cur, t, h1, h2, h3⟩
  · exact .inl h
  · exact .inr ⟨g, cur, t, h1, by omega, h3⟩
theorem own_kept {B : Nat} {w w' : World} {cs : List Value} {v : DVal} (h : OwnRows B w cs v) (hk : ∀ z, B ≤ z → z < w.heap.size → w'.heap[z]? = w.heap[z]?) : OwnRows B w' cs v := by
  obtain ⟨k, b, n, s, l, f⟩ := v
  obtain ⟨p1, c1, v2, e, h1, h2, h3, h4⟩ := h
  exact ⟨p1, c1, v2, e, h1, h2, h3.ext_to (fun _ h => h) (fun z hz hlt => hk z hz.1 hlt), h4.kept relF hk⟩
set_option maxHeartbeats 8000000 in
theorem own_free (k : Nat) (b : Bool) (n : Int) (s : List UInt8) (l : List DVal) (f : List (List UInt8 × DVal)) (S : Nat → Prop) (cs : List Value) (w : World) (hv : HasVal S w (.mk k b n s l f) cs) :
    Calls Tryd.prog 29 #[.agg cs.toArray] w fun e' w' => ∃ cs', e' = .returned (.agg cs'.toArray) ∧ HasVal (fun b => w.heap.size ≤ b) w' (.mk k b n s l f) cs' ∧ OwnRows w.heap.size w' cs' (.mk k b n s l f) ∧ FreeL w.heap.size w' cs' ∧ Below w.heap.size w w' := by
  have ihL : ∀ v ∈ l, OwnOk v := fun v _ => own_any v
  have ihF : ∀ p ∈ f, OwnOk p.2 := fun p _ => own_any p.2
  have hv2 : HasVal (fun b => b < w.heap.size) w (.mk k b n s l f) cs := relV.kept (relV.lt hv) (fun b h => h.2) (fun _ _ _ => rfl)
  obtain ⟨pl, cl, pf, cf, rfl, hbd, hL, hF⟩ := hasVal_mk.1 hv2
  have hll := hbd.2.2.2.2.1
  have hlf := hbd.2.2.2.2.2.1
  show Calls Tryd.prog 29 #[.agg #[.int .u8 (k : Int), .bool b, .int .i64 n, .string (bs s), .slice pl l.length cl, .slice pf f.length cf]] w _
  have HCL := Lib.hid (fun w' (hb : Below w.heap.size w w') => cloneValue_any l _ pl cl w' ((hasL_row.1 hL).ext relV hb) hll)
  have HCF := Lib.hid (fun w' (hb : Below w.heap.size w w') => cloneField_any f _ pf cf w' ((hasF_row.1 hF).ext relF hb) hlf)
  have HBD := Lib.hid hbd
  have HIL := Lib.hid ihL
  have HIF := Lib.hid ihF
  clear hv hv2 hL hF hbd ihL ihF
  go_enter Tryd.func29, Tryd.ntmps29
  go_upto_region 1 with (fail)
  generalize hW0 : World.alloc (World.alloc w _) _ = W0
  have hd1 : IsBlk W0 w.heap.size #[.int .u8 (k : Int), .bool b, .int .i64 n, .string (bs s), .slice pl l.length cl, .slice pf f.length cf] 26 := by rw [← hW0]; exact (IsBlk.new _ _ _).alloc _
  have hd2 : IsBlk W0 (w.heap.size + 1) #[.int .u8 0, .bool false, .int .i64 0, .string (bs []), .slice none 0 0, .slice none 0 0] 26 := by rw [← hW0]; exact IsBlk.new_at (by simp)
  have hb0 : Below w.heap.size w W0 := by rw [← hW0]; exact ((Below.refl _ _).alloc (Nat.le_refl _) _).alloc (by simp) _
  have hlt1 : w.heap.size < W0.heap.size := hd1.lt
  have hlt2 : w.heap.size + 1 < W0.heap.size := hd2.lt
  clear hW0
  have c4 := hd1.cell (i := 4) rfl
  have c5 := hd1.cell (i := 5) rfl
  have f4 := hd1.frozen 4
  have f5 := hd1.frozen 5
  have HD1 := Lib.hid hd1
  have HD2 := Lib.hid hd2
  have HB0 := Lib.hid hb0
  clear hd1 hd2 hb0
  refine mixB_start [7, 8, 9] (Cls W0) (by kernel_rfl) (Cls.of ((Below.refl _ _).drew)) (fun hCw => ?_)
  refine mixB_flt (by kernel_rfl) [0, 1, 3, 4] 6 _ _ hCw (by kernel_rfl) ?_
  simp only [opsAt, List.map_cons, List.map_nil, List.toList_toArray, List.getD_cons_succ, List.getD_cons_zero]
  unfold Cls
  repeat (go_big_quiet_step (fail))
  refine wpQuiet_nil ?_
  (try rw [← Cls_def])
  refine mixB_ch (i := 2) (fuel := 5) (by kernel_rfl) (by kernel_rfl) ?_
  simp only [opsAt, List.map_cons, List.map_nil, List.toList_toArray, List.getD_cons_succ, List.getD_cons_zero]
  go_wp2_with (go_at_call 51; refine (HCL.out _ (below_ext HB0.out hCw.below)).mono ?_; rintro e' w1 ⟨v1, rfl, hh1, hb1⟩; have hC1 := hCw)
  refine ThenB.mk (hCw.trans hb1) (fun hCw => ?_)
  refine mixB_flt (by kernel_rfl) [6] 4 _ _ hCw (by kernel_rfl) ?_
  simp only [opsAt, List.map_cons, List.map_nil, List.toList_toArray, List.getD_cons_succ, List.getD_cons_zero]
  unfold Cls
  repeat (go_big_quiet_step (fail))
  refine wpQuiet_nil ?_
  (try rw [← Cls_def])
  refine mixB_ch (i := 5) (fuel := 3) (by kernel_rfl) (by kernel_rfl) ?_
  simp only [opsAt, List.map_cons, List.map_nil, List.toList_toArray, List.getD_cons_succ, List.getD_cons_zero]
  go_wp2_with (go_at_call 52; refine (HCF.out _ (below_ext HB0.out hCw.below)).mono ?_; rintro e' w2 ⟨v2, rfl, hh2, hb2⟩)
  refine ThenB.mk (hCw.trans hb2) (fun hCw => ?_)
  refine mixB_end [7, 8, 9] (by kernel_rfl) ?_
  simp only [opsAt, List.map_cons, List.map_nil, List.toList_toArray, List.getD_cons_succ, List.getD_cons_zero]
  have hB01 : Below W0.heap.size W0 w1 := ((Below.refl _ _).drew).trans hb1
  have hz1 := hB01.size
  have hz2 := hb2.size
  obtain ⟨p1, c1, rfl, ho1⟩ := (hh1 (fun _ => True)).slice
  obtain ⟨p2, c2, rfl, ho2⟩ := (hh2 (fun _ => True)).slice
  have hblk2 := HD1.out.ext hCw.below
  have hzer2 := HD2.out.ext hCw.below
  have HB2 := Lib.hid (below_ext HB0.out hCw.below)
  have HH1 : Hid (∀ D, Half HasVal 6 W0.heap.size D (fun b => b < w.heap.size) 26 w2 (.slice p1 l.length c1) l 0) := Lib.hid (fun D => (hh1 D).ext relV hb2)
  have HH2 := Lib.hid hh2
  have HO1 := Lib.hid ho1
  have HO2 := Lib.hid ho2
  clear c4 c5 f4 f5 hCw hb1 hb2 hh1 hh2 ho1 ho2 hB01
  have c4 := hblk2.cell (i := 4) rfl
  have c5 := hblk2.cell (i := 5) rfl
  have f4 := hblk2.frozen 4
  have f5 := hblk2.frozen 5
  have HBK2 := Lib.hid hblk2
  have HZR2 := Lib.hid hzer2
  clear hblk2 hzer2
  have hst : ∀ W, W = (w2.setCell ⟨w.heap.size, 4, none⟩ (.slice p1 l.length c1)).setCell ⟨w.heap.size, 5, none⟩ (.slice p2 f.length c2) →
      IsBlk W w.heap.size #[.int .u8 (k : Int), .bool b, .int .i64 n, .string (bs s), .slice p1 l.length c1, .slice p2 f.length c2] 26 ∧ IsBlk W (w.heap.size + 1) #[.int .u8 0, .bool false, .int .i64 0, .string (bs []), .slice none 0 0, .slice none 0 0] 26 ∧ Below w.heap.size w W ∧ W.heap.size = w2.heap.size ∧ ∀ z, z ≠ w.heap.size → W.heap[z]? = w2.heap[z]? := by
    intro W hW
    subst hW
    have hoth : ∀ z, z ≠ w.heap.size → ((w2.setCell ⟨w.heap.size, 4, none⟩ (.slice p1 l.length c1)).setCell ⟨w.heap.size, 5, none⟩ (.slice p2 f.length c2)).heap[z]? = w2.heap[z]? := fun z hz => by
      rw [Below.heap_setCell _ _ _ _ hz, Below.heap_setCell _ _ _ _ hz]
    exact ⟨by simpa using (HBK2.out.set 4 (.slice p1 l.length c1)).set 5 (.slice p2 f.length c2), (hoth _ (by omega)).trans HZR2.out, below_set (below_set HB2.out (Nat.le_refl _)) (Nat.le_refl _), by simp, hoth⟩
  have HST := Lib.hid hst
  clear hst
  go_wp2
  refine Calm.normal ?_
  generalize hW3 : World.setCell _ _ _ = W3
  obtain ⟨e1, e2, e3, e4, e5⟩ := HST.out W3 hW3.symm
  have HH13 : Hid (Half HasVal 6 W0.heap.size (fun z => W3.heap.size ≤ z) (fun b => b < w.heap.size) 26 W3 (.slice p1 l.length c1) l 0) := Lib.hid ((HH1.out _).kept relV (fun z hz => e5 z (by have := (HO1.out z hz).1; omega)) (fun z hz hlt => by have h6 : W3.heap.size ≤ z := hz; omega) (fun z hz hlt => e5 z (by have h6 : z < w.heap.size := hz; omega)))
  have HH23 : Hid (∀ D, (∀ z, D z → W3.heap.size ≤ z) → Half HasFld 7 w1.heap.size D (fun b => b < w.heap.size) 38 W3 (.slice p2 f.length c2) f 0) := Lib.hid (fun D hD => (HH2.out _).kept relF (fun z hz => e5 z (by have := (HO2.out z hz).1; omega)) (fun z hz hlt => by have := hD z hz; omega) (fun z hz hlt => e5 z (by have h6 : z < w.heap.size := hz; omega)))
  have HBK3 := Lib.hid e1
  have HZR3 := Lib.hid e2
  have HB3 := Lib.hid e3
  have hs3 : W3.heap.size = w2.heap.size := e4
  have hlt3 : w.heap.size + 1 < W3.heap.size := by omega
  have c4 := e1.cell (i := 4) rfl
  clear e1 e2 e3 e4 e5 hW3 c5 f4 f5 HST HBK2 HZR2 HB2 HH1 HH2 HD1 HD2 HCL HCF
  have HS3 := Lib.hid hs3
  clear hs3
  go_wp2
  clear c4
  go_loopw [16] (fun i wr => ∃ j : Nat, i = .int .i64 (j : Int) ∧ j ≤ l.length ∧ Half HasVal 6 W0.heap.size (fun z => W3.heap.size ≤ z) (fun b => b < w.heap.size) 26 wr (.slice p1 l.length c1) l j ∧ KeptO (Value.slice p1 l.length c1).ownBlock W3 wr ∧ Below w.heap.size w wr) (fun i _ => l.length - (intOf i).toNat)
  case atStart => exact ⟨0, rfl, Nat.zero_le _, HH13.out, KeptO.refl _ _, HB3.out⟩
  case round =>
  clear HH13
  obtain ⟨j, rfl, hj, hh, hk, hbw⟩ := hrel
  have HBW := Lib.hid hbw
  have HH := Lib.hid hh
  have HKO := Lib.hid hk
  have hblk : IsBlk wr w.heap.size #[.int .u8 (k : Int), .bool b, .int .i64 n, .string (bs s), .slice p1 l.length c1, .slice p2 f.length c2] 26 := (hk.2 _ (by omega) (fun e => by have := (HO1.out _ e).1; omega)).trans HBK3.out
  have hszr := hk.1
  have HBK := Lib.hid hblk
  clear hh hk hbw
  by_cases hlt : j < l.length
  · obtain ⟨g, cap, cs, hv, hBg, hgl, hnc, hcm, hval, hcl, hcells, hfz⟩ := HH.out.next hlt
    obtain ⟨e1, _, e3⟩ := Value.slice.inj hv
    subst e1
    subst e3
    have hg3 := (HO1.out g rfl)
    have hok := HIL.out _ (List.getElem_mem hlt)
    have HVAL := Lib.hid hval
    generalize hu : l[j] = u at hval hok
    obtain ⟨k1, b1, n1, s1, l1, f1⟩ := u
    have hval' := hval
    obtain ⟨pl1, cl1, pf1, cf1, rfl, _⟩ := hasVal_mk.1 hval
    have d0 := hcells 0 (by omega)
    have d1 := hcells 1 (by omega)
    have d2 := hcells 2 (by omega)
    have d3 := hcells 3 (by omega)
    have d4 := hcells 4 (by omega)
    have d5 := hcells 5 (by omega)
    rw [Nat.add_zero] at d0
    have c4 := hblk.cell (i := 4) rfl
    have hlb := hblk.lt
    have HOK := Lib.hid hok
    have HV := Lib.hid hval'
    have HU := Lib.hid hu
    have HC := Lib.hid hcells
    have HFZ := Lib.hid hfz
    clear hval hval' hok hu hv hcells hfz hblk hcl hcm
    go_upto_region 5 with (fail)
    refine mixB_start [10] (Cls wr) (by kernel_rfl) (Cls.of ((Below.refl _ _).drew)) (fun hCw => ?_)
    refine mixB_flt (by kernel_rfl) [0, 1, 2, 3, 4, 5, 6, 7] 3 _ _ hCw (by kernel_rfl) ?_
    simp only [opsAt, List.map_cons, List.map_nil, List.toList_toArray, List.getD_cons_succ, List.getD_cons_zero]
    unfold Cls
    repeat (go_big_quiet_step (fail))
    refine wpQuiet_nil ?_
    (try rw [← Cls_def])
    refine mixB_ch (i := 8) (fuel := 2) (by kernel_rfl) (by kernel_rfl) ?_
    simp only [opsAt, List.map_cons, List.map_nil, List.toList_toArray, List.getD_cons_succ, List.getD_cons_zero]
    go_wp2_with (go_at_call 29; refine (HOK.out _ _ _ (HV.out.ext hCw.below)).mono ?_; rintro e' w3 ⟨cs', rfl, hv3, _, hb3⟩; obtain ⟨pl2, cl2, pf2, cf2, rfl, _⟩ := hasVal_mk.1 hv3)
    refine ThenB.mk (hCw.trans hb3) (fun hCw => ?_)
    refine mixB_flt (by kernel_rfl) [9] 1 _ _ hCw (by kernel_rfl) ?_
    simp only [opsAt, List.map_cons, List.map_nil, List.toList_toArray, List.getD_cons_succ, List.getD_cons_zero]
    unfold Cls
    repeat (go_big_quiet_step (fail))
    refine wpQuiet_nil ?_
    (try rw [← Cls_def])
    refine mixB_end [10] (by kernel_rfl) ?_
    simp only [opsAt, List.map_cons, List.map_nil, List.toList_toArray, List.getD_cons_succ, List.getD_cons_zero]
    have hbr : Below wr.heap.size wr w3 := ((Below.refl _ _).drew).trans hb3
    have hgb := hbr.block g hgl
    have hz3 := hbr.size
    have x0 := (hbr.cell (p := ⟨g, j * 6, none⟩) hgl).trans d0
    have x1 := (hbr.cell (p := ⟨g, j * 6 + 1, none⟩) hgl).trans d1
    have x2 := (hbr.cell (p := ⟨g, j * 6 + 2, none⟩) hgl).trans d2
    have x3 := (hbr.cell (p := ⟨g, j * 6 + 3, none⟩) hgl).trans d3
    have x4 := (hbr.cell (p := ⟨g, j * 6 + 4, none⟩) hgl).trans d4
    have x5 := (hbr.cell (p := ⟨g, j * 6 + 5, none⟩) hgl).trans d5
    have y0 := (frozen_block (o := j * 6) hgb).trans (HFZ.out _)
    have y1 := (frozen_block (o := j * 6 + 1) hgb).trans (HFZ.out _)
    have y2 := (frozen_block (o := j * 6 + 2) hgb).trans (HFZ.out _)
    have y3 := (frozen_block (o := j * 6 + 3) hgb).trans (HFZ.out _)
    have y4 := (frozen_block (o := j * 6 + 4) hgb).trans (HFZ.out _)
    have y5 := (frozen_block (o := j * 6 + 5) hgb).trans (HFZ.out _)
    have hstep := HH.out.step (pre := []) (new := [.int .u8 (k1 : Int), .bool b1, .int .i64 n1, .string (bs s1), .slice pl2 l1.length cl2, .slice pf2 f1.length cf2]) relV hbr hlt (fun z hz e => by have h6 : z < w.heap.size := hz; have := hg3.1; omega) (fun z hz => by omega) (fun z hz e => by have h6 : W3.heap.size ≤ z := hz; have := hg3.2; have h7 := HS3.out; omega) (fun S w cs _ => ⟨cs, rfl⟩) (by rw [HU.out]; exact hv3)
    have hkn := KeptO.sets (HKO.out.ext hbr) (size_setCells g · · w3) (j * 6 + 0) [.int .u8 (k1 : Int), .bool b1, .int .i64 n1, .string (bs s1), .slice pl2 l1.length cl2, .slice pf2 f1.length cf2]
    have hbn := below_setCells (B := w.heap.size) (w0 := w) (show w.heap.size ≤ g by have := hg3.1; omega) [.int .u8 (k1 : Int), .bool b1, .int .i64 n1, .string (bs s1), .slice pl2 l1.length cl2, .slice pf2 f1.length cf2] (j * 6 + 0) w3 (HBW.out.trans (hbr.mono HBW.out.size))
    have HF := Lib.hid (And.intro hstep (And.intro hkn hbn))
    clear hstep hkn hbn hgb hbr hb3 hv3 d0 d1 d2 d3 d4 d5 c4 hCw
    go_wp2
    refine Calm.normal ?_
    clear x0 x1 x2 x3 x4 x5 y0 y1 y2 y3 y4 y5
    go_wp2
    go_roundw
    case rel => exact ⟨j + 1, by go_num, hlt, HF.out.1, HF.out.2.1, HF.out.2.2⟩
    case measure => simp [intOf]; omega
  obtain rfl : j = l.length := by omega
  obtain ⟨W4, hW4⟩ : ∃ W4, W4 = wr := ⟨_, rfl⟩
  have hff : Half HasFld 7 w1.heap.size (fun z => W4.heap.size ≤ z) (fun b => b < w.heap.size) 38 W4 (.slice p2 f.length c2) f 0 := by
    rw [hW4]
    refine (HH23.out (fun z => wr.heap.size ≤ z) (fun z hz => by have h6 : wr.heap.size ≤ z := hz; omega)).kept relF (fun z hz => HKO.out.2 z (by have := (HO2.out z hz).2; have := HS3.out; omega) (fun e => ?_)) (fun z hz hlt => ?_) (fun z hz hlt => HKO.out.2 z hlt (fun e => ?_))
    · have h6 := (HO1.out z e).2
      have h7 := (HO2.out z hz).1
      omega
    · have h6 : wr.heap.size ≤ z := hz
      omega
    · have h6 : z < w.heap.size := hz
      have h7 := (HO1.out z e).1
      omega
  have hzer : IsBlk wr (w.heap.size + 1) #[.int .u8 0, .bool false, .int .i64 0, .string (bs []), .slice none 0 0, .slice none 0 0] 26 := (HKO.out.2 _ (by omega) (fun e => by have := (HO1.out _ e).1; omega)).trans HZR3.out
  have c5 := HBK.out.cell (i := 5) rfl
  have HFF := Lib.hid hff
  have HZR := Lib.hid hzer
  have HBW4 : Hid (Below w.heap.size w W4) := Lib.hid (by rw [hW4]; exact HBW.out)
  have HW4 := Lib.hid hW4
  have hlb := HBK.out.lt
  clear hff hzer hlt hj
  subst hW4
  clear HW4
  go_wp2
  clear c5
  go_loopw [33] (fun i wr => ∃ j : Nat, i = .int .i64 (j : Int) ∧ j ≤ f.length ∧ Half HasFld 7 w1.heap.size (fun z => W4.heap.size ≤ z) (fun b => b < w.heap.size) 38 wr (.slice p2 f.length c2) f j ∧ KeptO (Value.slice p2 f.length c2).ownBlock W4 wr ∧ Below w.heap.size w wr) (fun i _ => f.length - (intOf i).toNat)
  case atStart => exact ⟨0, rfl, Nat.zero_le _, HFF.out, KeptO.refl _ _, HBW4.out⟩
  case round =>
  clear HFF
  obtain ⟨j, rfl, hj, hh, hk, hbw⟩ := hrel
  have HBW' := Lib.hid hbw
  have HH' := Lib.hid hh
  have HKO' := Lib.hid hk
  have hblk : IsBlk wr w.heap.size #[.int .u8 (k : Int), .bool b, .int .i64 n, .string (bs s), .slice p1 l.length c1, .slice p2 f.length c2] 26 := (hk.2 _ (by omega) (fun e => by have := (HO2.out _ e).1; omega)).trans HBK.out
  have hszw := hk.1
  have HBK' := Lib.hid hblk
  clear hh hk hbw
  by_cases hlt : j < f.length
  · obtain ⟨g, cap, cs, hv, hBg, hgl, hnc, hcm, hval, hcl, hcells, hfz⟩ := HH'.out.next hlt
    obtain ⟨e1, _, e3⟩ := Value.slice.inj hv
    subst e1
    subst e3
    have hg3 := (HO2.out g rfl)
    have hok := HIF.out _ (List.getElem_mem hlt)
    generalize hu : f[j] = fu at hval hok
    obtain ⟨x, k1, b1, n1, s1, l1, f1⟩ := fu
    obtain ⟨cs1, rfl, hxl, hval⟩ := hval
    have hval' := hval
    obtain ⟨pl1, cl1, pf1, cf1, rfl, _⟩ := hasVal_mk.1 hval
    have d0 := hcells 1 (by omega)
    have d1 := hcells 2 (by omega)
    have d2 := hcells 3 (by omega)
    have d3 := hcells 4 (by omega)
    have d4 := hcells 5 (by omega)
    have d5 := hcells 6 (by omega)
    have c5 := hblk.cell (i := 5) rfl
    have hlb2 := hblk.lt
    have HOK := Lib.hid hok
    have HV := Lib.hid hval'
    have HU := Lib.hid hu
    have HXL := Lib.hid hxl
    have HC := Lib.hid hcells
    have HFZ := Lib.hid hfz
    clear hval hval' hok hu hv hcells hfz hblk hcl hcm hxl
    go_upto_region 10 with (fail)
    refine mixB_start [12] (Cls wr) (by kernel_rfl) (Cls.of ((Below.refl _ _).drew)) (fun hCw => ?_)
    refine mixB_flt (by kernel_rfl) [0, 1, 2, 3, 4, 5, 6, 7, 8] 4 _ _ hCw (by kernel_rfl) ?_
    simp only [opsAt, List.map_cons, List.map_nil, List.toList_toArray, List.getD_cons_succ, List.getD_cons_zero]
    unfold Cls
    repeat (go_big_quiet_step (fail))
    refine wpQuiet_nil ?_
    (try rw [← Cls_def])
    refine mixB_ch (i := 9) (fuel := 3) (by kernel_rfl) (by kernel_rfl) ?_
    simp only [opsAt, List.map_cons, List.map_nil, List.toList_toArray, List.getD_cons_succ, List.getD_cons_zero]
    go_wp2_with (go_at_call 29; refine (HOK.out _ _ _ (HV.out.ext hCw.below)).mono ?_; rintro e' w3 ⟨cs', rfl, hv3, _, hb3⟩; obtain ⟨pl3, cl3, pf3, cf3, rfl, _⟩ := hasVal_mk.1 hv3)
    refine ThenB.mk (hCw.trans hb3) (fun hCw => ?_)
    refine mixB_flt (by kernel_rfl) [10, 11] 1 _ _ hCw (by kernel_rfl) ?_
    simp only [opsAt, List.map_cons, List.map_nil, List.toList_toArray, List.getD_cons_succ, List.getD_cons_zero]
    unfold Cls
    repeat (go_big_quiet_step (fail))
    refine wpQuiet_nil ?_
    (try rw [← Cls_def])
    refine mixB_end [12] (by kernel_rfl) ?_
    simp only [opsAt, List.map_cons, List.map_nil, List.toList_toArray, List.getD_cons_succ, List.getD_cons_zero]
    have hbr : Below wr.heap.size wr w3 := ((Below.refl _ _).drew).trans hb3
    have hgb := hbr.block g hgl
    have hz3 := hbr.size
    have x0 := (hbr.cell (p := ⟨g, j * 7 + 1, none⟩) hgl).trans d0
    have x1 := (hbr.cell (p := ⟨g, j * 7 + 2, none⟩) hgl).trans d1
    have x2 := (hbr.cell (p := ⟨g, j * 7 + 3, none⟩) hgl).trans d2
    have x3 := (hbr.cell (p := ⟨g, j * 7 + 4, none⟩) hgl).trans d3
    have x4 := (hbr.cell (p := ⟨g, j * 7 + 5, none⟩) hgl).trans d4
    have x5 := (hbr.cell (p := ⟨g, j * 7 + 6, none⟩) hgl).trans d5
    have y0 := (frozen_block (o := j * 7 + 1) hgb).trans (HFZ.out _)
    have y1 := (frozen_block (o := j * 7 + 2) hgb).trans (HFZ.out _)
    have y2 := (frozen_block (o := j * 7 + 3) hgb).trans (HFZ.out _)
    have y3 := (frozen_block (o := j * 7 + 4) hgb).trans (HFZ.out _)
    have y4 := (frozen_block (o := j * 7 + 5) hgb).trans (HFZ.out _)
    have y5 := (frozen_block (o := j * 7 + 6) hgb).trans (HFZ.out _)
    have hstep := HH'.out.step (pre := [.string (bs x)]) (new := [.int .u8 (k1 : Int), .bool b1, .int .i64 n1, .string (bs s1), .slice pl3 l1.length cl3, .slice pf3 f1.length cf3]) relF hbr hlt (fun z hz e => by have h6 : z < w.heap.size := hz; have := hg3.1; omega) (fun z hz => Nat.le_trans hszw hz) (fun z hz e => by have h6 : W4.heap.size ≤ z := hz; have := hg3.2; have h7 := HS3.out; omega) (fun S w cs h => by
      rw [HU.out] at h
      obtain ⟨cs', rfl, _⟩ := h
      exact ⟨cs', rfl⟩) (by rw [HU.out]; exact ⟨_, rfl, HXL.out, hv3⟩)
    have hkn := KeptO.sets (HKO'.out.ext hbr) (size_setCells g · · w3) (j * 7 + 1) [.int .u8 (k1 : Int), .bool b1, .int .i64 n1, .string (bs s1), .slice pl3 l1.length cl3, .slice pf3 f1.length cf3]
    have hbn := below_setCells (B := w.heap.size) (w0 := w) (show w.heap.size ≤ g by have := hg3.1; omega) [.int .u8 (k1 : Int), .bool b1, .int .i64 n1, .string (bs s1), .slice pl3 l1.length cl3, .slice pf3 f1.length cf3] (j * 7 + 1) w3 (HBW'.out.trans (hbr.mono HBW'.out.size))
    have HF := Lib.hid (And.intro hstep (And.intro hkn hbn))
    clear hstep hkn hbn hgb hbr hb3 hv3 d0 d1 d2 d3 d4 d5 c5 hCw
    go_wp2
    refine Calm.normal ?_
    clear x0 x1 x2 x3 x4 x5 y0 y1 y2 y3 y4 y5
    go_wp2
    go_roundw
    case rel => exact ⟨j + 1, by go_num, hlt, HF.out.1, HF.out.2.1, HF.out.2.2⟩
    case measure => simp [intOf]; omega
  obtain rfl : j = f.length := by omega
  have hzer2 : IsBlk wr (w.heap.size + 1) #[.int .u8 0, .bool false, .int .i64 0, .string (bs []), .slice none 0 0, .slice none 0 0] 26 := (HKO'.out.2 _ (by omega) (fun e => by have := (HO2.out _ e).1; omega)).trans HZR.out
  have hL : Half HasVal 6 W0.heap.size (fun z => W3.heap.size ≤ z) (fun b => b < w.heap.size) 26 wr (.slice p1 l.length c1) l l.length := HH.out.kept relV (fun z hz => HKO'.out.2 z (by have := (HO1.out z hz).2; have := HS3.out; omega) (fun e => by have h6 := (HO2.out z e).1; have h7 := (HO1.out z hz).2; omega)) (fun z hz hlt => HKO'.out.2 z hlt (fun e => by have h6 := (HO2.out z e).2; have h7 : W3.heap.size ≤ z := hz; have := HS3.out; omega)) (fun z hz hlt => HKO'.out.2 z hlt (fun e => by have h6 := (HO2.out z e).1; have h7 : z < w.heap.size := hz; omega))
  have hF := HH'.out
  have hend : ∀ W, (∀ z, z ≠ w.heap.size + 1 → W.heap[z]? = wr.heap[z]?) → HasVal (fun z => w.heap.size ≤ z) W (.mk k b n s l f) [.int .u8 (k : Int), .bool b, .int .i64 n, .string (bs s), .slice p1 l.length c1, .slice p2 f.length c2] := by
    intro W ho
    have hL2 := hL.kept relV (fun z hz => ho z (by have := (HO1.out z hz).1; omega)) (fun z hz _ => ho z (by have h7 : W3.heap.size ≤ z := hz; omega)) (fun z hz _ => ho z (by have h7 : z < w.heap.size := hz; omega))
    have hF2 := hF.kept relF (fun z hz => ho z (by have := (HO2.out z hz).1; omega)) (fun z hz _ => ho z (by have h7 : W4.heap.size ≤ z := hz; omega)) (fun z hz _ => ho z (by have h7 : z < w.heap.size := hz; omega))
    obtain ⟨q1, d1, hv1, b1, b2, hc1⟩ := (hL2.acc relV (fun z hz => ⟨by have h7 : W3.heap.size ≤ z := hz; have h8 := HS3.out; omega, fun e => by have h6 := (HO1.out z e).2; have h7 : W3.heap.size ≤ z := hz; have := HS3.out; omega⟩)).cells relV (S := fun z => w.heap.size ≤ z) (fun z hz => Nat.le_trans (show w.heap.size ≤ W0.heap.size by omega) hz)
    obtain ⟨q2, d2, hv2, b3, b4, hc2⟩ := (hF2.acc relF (fun z hz => ⟨by have h7 : W4.heap.size ≤ z := hz; have h8 := HS3.out; omega, fun e => by have h6 := (HO2.out z e).2; have h7 : W4.heap.size ≤ z := hz; have := HS3.out; omega⟩)).cells relF (S := fun z => w.heap.size ≤ z) (fun z hz => Nat.le_trans (show w.heap.size ≤ w1.heap.size by omega) hz)
    obtain ⟨e1, _, e3⟩ := Value.slice.inj hv1
    obtain ⟨e4, _, e6⟩ := Value.slice.inj hv2
    subst e1
    subst e3
    subst e4
    subst e6
    have hbd := HBD.out
    refine hasVal_mk.2 ⟨_, _, _, _, rfl, ⟨hbd.1, hbd.2.1, hbd.2.2.1, hbd.2.2.2.1, hbd.2.2.2.2.1, hbd.2.2.2.2.2.1, b1, b2, b3, b4⟩, fun i hi => ?_, hasF_row.2 (fun i hi => ?_)⟩
    · obtain ⟨g, cs, x1, x2, x3⟩ := hc1 i hi
      exact ⟨g, 0, cs, x1, x2, x3⟩
    · obtain ⟨g, cs, x1, x2, x3⟩ := hc2 i hi
      exact ⟨g, 0, cs, x1, x2, x3⟩
  have hend2 : ∀ W, (∀ z, z ≠ w.heap.size + 1 → W.heap[z]? = wr.heap[z]?) → OwnRows w.heap.size W [.int .u8 (k : Int), .bool b, .int .i64 n, .string (bs s), .slice p1 l.length c1, .slice p2 f.length c2] (.mk k b n s l f) := by
    intro W ho
    have hL2 := hL.kept relV (fun z hz => ho z (by have := (HO1.out z hz).1; omega)) (fun z hz _ => ho z (by have h7 : W3.heap.size ≤ z := hz; omega)) (fun z hz _ => ho z (by have h7 : z < w.heap.size := hz; omega))
    have hF2 := hF.kept relF (fun z hz => ho z (by have := (HO2.out z hz).1; omega)) (fun z hz _ => ho z (by have h7 : W4.heap.size ≤ z := hz; omega)) (fun z hz _ => ho z (by have h7 : z < w.heap.size := hz; omega))
    obtain ⟨q1, d1, hv1, b1, b2, hc1⟩ := hL2.cells relV (S := fun z => w.heap.size ≤ z ∧ (Value.slice p2 f.length c2).ownBlock ≠ some z) (fun z hz => ⟨by have := (HO1.out z hz).1; omega, fun e => by have h6 := (HO2.out z e).1; have h7 := (HO1.out z hz).2; omega⟩) (fun z hz => ⟨by have h7 : W3.heap.size ≤ z := hz; have h8 := HS3.out; omega, fun e => by have h6 := (HO2.out z e).2; have h7 : W3.heap.size ≤ z := hz; have := HS3.out; omega⟩)
    obtain ⟨e1, _, e3⟩ := Value.slice.inj hv1
    subst e1
    subst e3
    refine ⟨_, _, _, rfl, b1, b2, fun i hi => ?_, (hF2.base (by omega)).acc relF (fun z hz => ⟨by have h7 : W4.heap.size ≤ z := hz; have h8 := HS3.out; omega, fun e => by have h6 := (HO2.out z e).2; have h7 : W4.heap.size ≤ z := hz; have := HS3.out; omega⟩)⟩
    obtain ⟨g, cs, x1, x2, x3⟩ := hc1 i hi
    exact ⟨g, 0, cs, x1, x2, x3⟩
  have hend3 : ∀ W, (∀ z, z ≠ w.heap.size + 1 → W.heap[z]? = wr.heap[z]?) → FreeL w.heap.size W [.int .u8 (k : Int), .bool b, .int .i64 n, .string (bs s), .slice p1 l.length c1, .slice p2 f.length c2] := by
    intro W ho
    have hL2 := hL.kept relV (fun z hz => ho z (by have := (HO1.out z hz).1; omega)) (fun z hz _ => ho z (by have h7 : W3.heap.size ≤ z := hz; omega)) (fun z hz _ => ho z (by have h7 : z < w.heap.size := hz; omega))
    obtain ⟨css, h1, _⟩ := hL2
    intro p n' c q m d hp hq
    have e : Value.slice p1 l.length c1 = .slice p n' c := Option.some.inj hp
    have e9 : Value.slice p2 f.length c2 = .slice q m d := Option.some.inj hq
    obtain ⟨e1, e5, _⟩ := Value.slice.inj e
    subst e1
    subst e5
    rw [← e9]
    rcases h1.2 with ⟨h2, h3⟩ | ⟨g2, cap, cur, h2, hB2, h3, hnc, _, hcs, _⟩
    · obtain ⟨e2, _, _⟩ := Value.slice.inj h2
      exact .inl ⟨e2, h3⟩
    · obtain ⟨e2, _, _⟩ := Value.slice.inj h2
      refine .inr ⟨g2, cur, _, e2, by omega, h3, by rw [hcs]; exact Nat.mul_le_mul_right _ hnc, fun e => ?_⟩
      have h7 := (HO1.out g2 (by rw [e2]; rfl)).2
      have h8 := (HO2.out g2 e).1
      omega
  have HEND3 := Lib.hid hend3
  have HEND := Lib.hid hend
  have HEND2 := Lib.hid hend2
  have HZR2 := Lib.hid hzer2
  have b0 := HBK'.out.cell (i := 0) rfl
  have b1 := HBK'.out.cell (i := 1) rfl
  have b2 := HBK'.out.cell (i := 2) rfl
  have b3 := HBK'.out.cell (i := 3) rfl
  have b4 := HBK'.out.cell (i := 4) rfl
  have b5 := HBK'.out.cell (i := 5) rfl
  have z0 := hzer2.cell (i := 0) rfl
  have z1 := hzer2.cell (i := 1) rfl
  have z2 := hzer2.cell (i := 2) rfl
  have z3 := hzer2.cell (i := 3) rfl
  have z4 := hzer2.cell (i := 4) rfl
  have z5 := hzer2.cell (i := 5) rfl
  have y0 := hzer2.frozen 0
  have y1 := hzer2.frozen 1
  have y2 := hzer2.frozen 2
  have y3 := hzer2.frozen 3
  have y4 := hzer2.frozen 4
  have y5 := hzer2.frozen 5
  have hlz := hzer2.lt
  have hset := blk_setCells [.int .u8 (k : Int), .bool b, .int .i64 n, .string (bs s), .slice p1 l.length c1, .slice p2 f.length c2] 0 wr [.int .u8 0, .bool false, .int .i64 0, .string (bs []), .slice none 0 0, .slice none 0 0] hzer2
  have hbf := below_setCells (B := w.heap.size) (w0 := w) (show w.heap.size ≤ w.heap.size + 1 by omega) [.int .u8 (k : Int), .bool b, .int .i64 n, .string (bs s), .slice p1 l.length c1, .slice p2 f.length c2] 0 wr HBW'.out
  have HSET := Lib.hid hset
  have HBF := Lib.hid hbf
  have HOTH := Lib.hid (fun z (hz : z ≠ w.heap.size + 1) => other_setCells hz [.int .u8 (k : Int), .bool b, .int .i64 n, .string (bs s), .slice p1 l.length c1, .slice p2 f.length c2] 0 wr)
  clear hzer2 hL hF hend hend2 hend3 hset hbf
  go_wp2
  exact bodyPost_ret (v := .agg #[.int .u8 (k : Int), .bool b, .int .i64 n, .string (bs s), .slice p1 l.length c1, .slice p2 f.length c2]) (results_c (p := 2) (ty := 26) Tryd.results29 rfl HSET.out Tryd.underlying26 rfl (by kernel_rfl)) rfl ⟨[.int .u8 (k : Int), .bool b, .int .i64 n, .string (bs s), .slice p1 l.length c1, .slice p2 f.length c2], rfl, HEND.out _ HOTH.out, HEND2.out _ HOTH.out, HEND3.out _ HOTH.out, HBF.out⟩
set_option maxHeartbeats 4000000 in
theorem get_nil (k : Nat) (b : Bool) (n : Int) (s : List UInt8) (l : List DVal) (f : List (List UInt8 × DVal)) (S : Nat → Prop) (cs : List Value) (w : World) (hv : HasVal S w (.mk k b n s l f) cs) :
    Calls Tryd.prog 16 #[.agg cs.toArray, .slice none 0 0] w fun e' w' => ∃ cs', e' = .returned (.tuple #[.agg cs'.toArray, .bool true]) ∧ HasVal (fun b => w.heap.size ≤ b) w' (.mk k b n s l f) cs' ∧ OwnRows w.heap.size w' cs' (.mk k b n s l f) ∧ FreeL w.heap.size w' cs' ∧ Below w.heap.size w w' := by
  have HV := Lib.hid hv
  obtain ⟨pl, cl, pf, cf, rfl, _⟩ := hasVal_mk.1 hv
  clear hv
  show Calls Tryd.prog 16 #[.agg #[.int .u8 (k : Int), .bool b, .int .i64 n, .string (bs s), .slice pl l.length cl, .slice pf f.length cf], .slice none 0 0] w _
  go_enter Tryd.func16, Tryd.ntmps16
  go_upto_region 1 with (fail)
  generalize hW0 : World.alloc (World.alloc w _) _ = W0
  have hd1 : IsBlk W0 w.heap.size ([.int .u8 (k : Int), .bool b, .int .i64 n, .string (bs s), .slice pl l.length cl, .slice pf f.length cf] : List Value).toArray 26 := by rw [← hW0]; exact (IsBlk.new _ _ _).alloc _
  have hd2 : IsBlk W0 (w.heap.size + 1) zeroCs.toArray 26 := by rw [← hW0]; exact IsBlk.new_at (by simp)
  have hbw0 : Below w.heap.size w W0 := by rw [← hW0]; exact ((Below.refl _ _).alloc (Nat.le_refl _) _).alloc (by simp) _
  have hsz0 := hbw0.size
  have HD1 := Lib.hid hd1
  have HD2 := Lib.hid hd2
  have HB0 := Lib.hid hbw0
  have hlt2 := hd2.lt
  clear hW0 hd1 hd2 hbw0
  go_wp2
  go_loopw [13] (fun i wr => i = .int .i64 0 ∧ wr = W0) (fun _ _ => 0)
  case atStart => exact ⟨rfl, rfl⟩
  case round =>
  obtain ⟨rfl, rfl⟩ := hrel
  have hb1 := HD1.out
  have x0 := hb1.cell (i := 0) rfl
  have x1 := hb1.cell (i := 1) rfl
  have x2 := hb1.cell (i := 2) rfl
  have x3 := hb1.cell (i := 3) rfl
  have x4 := hb1.cell (i := 4) rfl
  have x5 := hb1.cell (i := 5) rfl
  have hl1 := hb1.lt
  clear hb1
  go_wp2_with fail
  go_at_call 29
  refine (own_free k b n s l f _ _ _ (HV.out.ext HB0.out)).mono ?_
  rintro e' w3 ⟨cs3, rfl, hv3, ho3, hf3, hb3⟩
  obtain ⟨pl3, cl3, pf3, cf3, rfl, _⟩ := hasVal_mk.1 hv3
  have hz3 := HD2.out.ext hb3
  have z0 := hz3.cell (i := 0) rfl
  have z1 := hz3.cell (i := 1) rfl
  have z2 := hz3.cell (i := 2) rfl
  have z3 := hz3.cell (i := 3) rfl
  have z4 := hz3.cell (i := 4) rfl
  have z5 := hz3.cell (i := 5) rfl
  have y0 := hz3.frozen 0
  have y1 := hz3.frozen 1
  have y2 := hz3.frozen 2
  have y3 := hz3.frozen 3
  have y4 := hz3.frozen 4
  have y5 := hz3.frozen 5
  have hlz3 := hz3.lt
  have hot : ∀ z, w3.heap.size ≤ z ∨ wr.heap.size ≤ z → (w3.setCells (w.heap.size + 1) 0 [.int .u8 (k : Int), .bool b, .int .i64 n, .string (bs s), .slice pl3 l.length cl3, .slice pf3 f.length cf3]).heap[z]? = w3.heap[z]? := fun z hz => other_setCells (by have h9 := hb3.size; omega) _ _ _
  have hend := And.intro (HasVal.ext_to (S := fun b => wr.heap.size ≤ b) (S' := fun b => w.heap.size ≤ b) (w' := w3.setCells (w.heap.size + 1) 0 [.int .u8 (k : Int), .bool b, .int .i64 n, .string (bs s), .slice pl3 l.length cl3, .slice pf3 f.length cf3]) hv3 (fun z hz => Nat.le_trans hsz0 hz) (fun z hz _ => hot z (.inr hz))) (And.intro (own_base' (own_kept (w' := w3.setCells (w.heap.size + 1) 0 [.int .u8 (k : Int), .bool b, .int .i64 n, .string (bs s), .slice pl3 l.length cl3, .slice pf3 f.length cf3]) ho3 (fun z hz _ => hot z (.inr hz))) hsz0) (FreeL.kept (w' := w3.setCells (w.heap.size + 1) 0 [.int .u8 (k : Int), .bool b, .int .i64 n, .string (bs s), .slice pl3 l.length cl3, .slice pf3 f.length cf3]) hf3 (fun z hz _ => hot z (.inr hz))))
  have hze := And.intro (blk_setCells [.int .u8 (k : Int), .bool b, .int .i64 n, .string (bs s), .slice pl3 l.length cl3, .slice pf3 f.length cf3] 0 w3 zeroCs hz3) (below_setCells (B := w.heap.size) (w0 := w) (show w.heap.size ≤ w.heap.size + 1 by omega) [.int .u8 (k : Int), .bool b, .int .i64 n, .string (bs s), .slice pl3 l.length cl3, .slice pf3 f.length cf3] 0 w3 (HB0.out.trans (hb3.mono hsz0)))
  have HZE := Lib.hid hze
  have HEN := Lib.hid hend
  clear hze hend hot hz3 hv3 ho3 hf3 hb3 x0 x1 x2 x3 x4 x5 hl1
  go_wp2
  exact bodyPost_ret (results_ct (p := 4) (u := 5) (ty := 26) Tryd.results16 rfl HZE.out.1 Tryd.underlying26 rfl (by kernel_rfl) rfl) rfl ⟨[.int .u8 (k : Int), .bool b, .int .i64 n, .string (bs s), .slice pl3 l.length cl3, .slice pf3 f.length cf3], rfl, HEN.out.1, HEN.out.2.1, free_base HEN.out.2.2 hsz0, HZE.out.2⟩
end Go.Proofs.YthcojmpigdojoaaDoor
