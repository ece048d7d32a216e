/- ValueParts: whatever path is gone, whatever field put or dropped, it comes to what the document says. Conditions: both values, path and name lie in memory; the bulk is at most 2^20; the tables and the two errors read as the texts lay them. -/
import Derived.Test.YthcojmpigdojoaaDoorVLives
import Derived.Test.YthcojmpigdojoaaDoorDropV
import Derived.Test.YthcojmpigdojoaaDoorRefPut
import Derived.Test.YthcojmpigdojoaaDoorRefGet
import Derived.Test.YthcojmpigdojoaaDoorSameV
import Derived.Test.YthcojmpigdojoaaDoorVTxtRow
set_option linter.unusedVariables false
set_option linter.unusedSimpArgs false
namespace Go.Proofs.YthcojmpigdojoaaDoor
open Go Go.RowKit Go.BigFrame
set_option maxRecDepth 100000

theorem fields_bulk : ∀ f : List (List UInt8 × DVal), f.length ≤ bulkF f
  | [] => by simp
  | (x, v) :: f => by
    have h := fields_bulk f
    rw [bulkF, List.length_cons]
    omega
theorem len_bulk {k : Nat} {b : Bool} {n : Int} {s : List UInt8} {l : List DVal} {f : List (List UInt8 × DVal)} {N : Nat} (h : bulkV (.mk k b n s l f) ≤ N) : f.length ≤ N := by
  have h1 := fields_bulk f
  rw [bulkV] at h
  omega
theorem same_refl (v : DVal) : sameV v v = true := (sameV_iff _ _).2 rfl
set_option maxHeartbeats 8000000 in
theorem parts_any (V X : DVal) (path : List (List UInt8)) (name : List UInt8) (S SX S2 : Nat → Prop) (cv cx : List Value) (pp : Option Addr) (pc : Nat) (w : World) (hV : HasVal S w V cv) (hX : HasVal SX w X cx) (hp : HasS S2 w pp path) (hpn : path.length ≤ 1048576) (hpt : ∀ x ∈ path, x.length ≤ 1048576) (hnl : name.length ≤ 1073741824) (hN : NumT w) (hU : U8T w) (hbv : bulkV V ≤ 1048576) :
    Calls Tryd.prog 9 #[.agg cv.toArray, .slice pp path.length pc, .string (bs name), .agg cx.toArray] w fun e' w' => e' = .returned (.bool true) ∧ Below w.heap.size w w' := by
  have HV := Lib.hid hV
  have HX := Lib.hid hX
  have HP := Lib.hid hp
  have HPT := Lib.hid hpt
  have HNT := Lib.hid hN
  have HLIV := Lib.hid (fun w' (hb : Below w.heap.size w w') => vlives_any w' (hN.ext hb) (U8T_ext hU hb))
  obtain ⟨kv, bv, nv, sv, lv, fv⟩ := V
  obtain ⟨kx, bx, nx, sx, lx, fx⟩ := X
  have hfl := len_bulk hbv
  obtain ⟨plv, clv, pfv, cfv, rfl, _⟩ := hasVal_mk.1 hV
  obtain ⟨plx, clx, pfx, cfx, rfl, _⟩ := hasVal_mk.1 hX
  have Hv := Lib.hid (relV.lt HV.out)
  have Hx := Lib.hid (relV.lt HX.out)
  obtain ⟨q1, hq1⟩ : ∃ q, q = (getV (.mk kv bv nv sv lv fv) path).isSome := ⟨_, rfl⟩
  have HQ1 := Lib.hid hq1
  obtain ⟨Za, hZa⟩ : ∃ Z, Z = (getV (.mk kv bv nv sv lv fv) path).getD .zero := ⟨_, rfl⟩
  have HZa := Lib.hid hZa
  obtain ⟨Zc, hZc⟩ : ∃ Z, Z = putV name (.mk kx bx nx sx lx fx) (.mk kv bv nv sv lv fv) := ⟨_, rfl⟩
  have HZc := Lib.hid hZc
  obtain ⟨Ze, hZe⟩ : ∃ Z, Z = dropV name (.mk kv bv nv sv lv fv) := ⟨_, rfl⟩
  have HZe := Lib.hid hZe
  obtain ⟨c6, hc6⟩ : ∃ c : Int, c = (if kv = 6 then 0 else 5) := ⟨_, rfl⟩
  have HC6 := Lib.hid hc6
  obtain ⟨pn, hpn'⟩ : ∃ pn, pn = path.length := ⟨_, rfl⟩
  have HPN := Lib.hid hpn'
  rw [← hpn'] at hpn ⊢
  obtain ⟨ka, ba, na, sa, la, fa⟩ := Za
  obtain ⟨kc, bc, nc, sc, lc, fc⟩ := Zc
  obtain ⟨ke, be, ne, se, le, fe⟩ := Ze
  clear hV hX hp hN hU hpt hq1 hZa hZc hZe hc6 hpn'
  show Calls Tryd.prog 9 #[.agg #[.int .u8 (kv : Int), .bool bv, .int .i64 nv, .string (bs sv), .slice plv lv.length clv, .slice pfv fv.length cfv], .slice pp pn pc, .string (bs name), .agg #[.int .u8 (kx : Int), .bool bx, .int .i64 nx, .string (bs sx), .slice plx lx.length clx, .slice pfx fx.length cfx]] w _
  go_enter Tryd.func9, Tryd.ntmps9
  go_upto_region 1 with (fail)
  generalize hW0 : World.alloc (World.alloc w _) _ = W0
  have hdv : IsBlk W0 (w.heap.size) #[.int .u8 (kv : Int), .bool bv, .int .i64 nv, .string (bs sv), .slice plv lv.length clv, .slice pfv fv.length cfv] 26 := by rw [← hW0]; exact ((IsBlk.new _ _ _).alloc _)
  have hdx : IsBlk W0 (w.heap.size + 1) #[.int .u8 (kx : Int), .bool bx, .int .i64 nx, .string (bs sx), .slice plx lx.length clx, .slice pfx fx.length cfx] 26 := by rw [← hW0]; exact (IsBlk.new_at (by simp))
  have hb0 : Below w.heap.size w W0 := by rw [← hW0]; exact ((Below.refl _ _).alloc (Nat.le_refl _) _).alloc (by simp) _
  have Bv_0 := Lib.hid hdv
  have Bx_0 := Lib.hid hdx
  have BB_0 := Lib.hid hb0
  have hsz_0 := hb0.size
  have hsw_0 : W0.heap.size ≤ w.heap.size + 2 ∧ w.heap.size + 2 ≤ W0.heap.size := by rw [← hW0]; simp
  have Vv_0 := Lib.hid (Hv.out.ext hb0)
  have Vx_0 := Lib.hid (Hx.out.ext hb0)
  clear hW0 hb0 hdv hdx
  have hv := Bv_0.out
  have cv0 := hv.cell (i := 0) rfl
  have cv1 := hv.cell (i := 1) rfl
  have cv2 := hv.cell (i := 2) rfl
  have cv3 := hv.cell (i := 3) rfl
  have cv4 := hv.cell (i := 4) rfl
  have cv5 := hv.cell (i := 5) rfl
  have hlv := hv.lt
  clear hv
  have hc := rcopy_any (.mk kv bv nv sv lv fv) _ _ _ Vv_0.out
  have HC := Lib.hid hc
  clear hc
  go_wp2_with fail
  go_at_call 15
  refine HC.out.mono ?_
  rintro e' wA0 ⟨cg, rfl, hvn, _, hb⟩
  obtain ⟨plg, clg, pfg, cfg, rfl, _⟩ := hasVal_mk.1 hvn
  have hbA := hb
  clear cv0 cv1 cv2 cv3 cv4 cv5 hlv
  go_upto_region 2 with (fail)
  generalize hWB : World.alloc _ _ = W1
  have hdn : IsBlk W1 wA0.heap.size #[.int .u8 (kv : Int), .bool bv, .int .i64 nv, .string (bs sv), .slice plg lv.length clg, .slice pfg fv.length cfg] 26 := by rw [← hWB]; exact IsBlk.new _ _ _
  have hbn : Below wA0.heap.size wA0 W1 := by rw [← hWB]; exact (Below.refl _ _).alloc (Nat.le_refl _) _
  have hsn_1 : W1.heap.size ≤ wA0.heap.size + 1 ∧ wA0.heap.size + 1 ≤ W1.heap.size := by rw [← hWB]; simp
  have hsa_1 : W0.heap.size ≤ wA0.heap.size := hbA.size
  have hbW := below_ext hbA hbn
  have Bg_1 := Lib.hid hdn
  have hvl : HasVal (fun z => W0.heap.size ≤ z ∧ z < wA0.heap.size) W1 _ _ := (relV.lt hvn).ext_to (fun z hz => ⟨Nat.le_trans (by first | exact Nat.le_refl _ | (simp; done) | (simp; omega)) hz.1, hz.2⟩) (fun z hz _ => hbn.block z hz.2)
  have Vg_1 := Lib.hid hvl
  have Bv_1 := Lib.hid (Bv_0.out.ext hbW)
  have Bx_1 := Lib.hid (Bx_0.out.ext hbW)
  have Vv_1 := Lib.hid (Vv_0.out.ext hbW)
  have Vx_1 := Lib.hid (Vx_0.out.ext hbW)
  have BB_1 := Lib.hid (BB_0.out.trans (hbW.mono BB_0.out.size))
  have hsz_1 := BB_1.out.size
  clear Bv_0 Bx_0 Vv_0 Vx_0
  clear hWB hdn hbn hbW hbA hb hvn hvl HC
  have hg := Bg_1.out
  have cg0 := hg.cell (i := 0) rfl
  have cg1 := hg.cell (i := 1) rfl
  have cg2 := hg.cell (i := 2) rfl
  have cg3 := hg.cell (i := 3) rfl
  have cg4 := hg.cell (i := 4) rfl
  have cg5 := hg.cell (i := 5) rfl
  have hlg := hg.lt
  clear hg
  have hc := get_any (.mk kv bv nv sv lv fv) path _ S2 _ pp pc _ Vg_1.out (HP.out.ext BB_1.out) (by rw [← HPN.out]; omega) (fun x hx => by have := HPT.out x hx; omega) (HNT.out.ext BB_1.out)
  unfold GetPost at hc
  rw [← HQ1.out, ← HZa.out, ← HPN.out] at hc
  have HC := Lib.hid hc
  clear hc
  go_wp2_with fail
  go_at_call 16
  refine HC.out.mono ?_
  rintro e' wA1 ⟨ca, rfl, hvn, hb⟩
  obtain ⟨pla, cla, pfa, cfa, rfl, _⟩ := hasVal_mk.1 hvn
  have hbA := hb
  clear cg0 cg1 cg2 cg3 cg4 cg5 hlg
  go_upto_region 3 with (fail)
  generalize hWB : World.alloc _ _ = W2
  have hdn : IsBlk W2 wA1.heap.size #[.int .u8 (ka : Int), .bool ba, .int .i64 na, .string (bs sa), .slice pla la.length cla, .slice pfa fa.length cfa] 26 := by rw [← hWB]; exact IsBlk.new _ _ _
  have hbn : Below wA1.heap.size wA1 W2 := by rw [← hWB]; exact (Below.refl _ _).alloc (Nat.le_refl _) _
  have hsn_2 : W2.heap.size ≤ wA1.heap.size + 1 ∧ wA1.heap.size + 1 ≤ W2.heap.size := by rw [← hWB]; simp
  have hsa_2 : W1.heap.size ≤ wA1.heap.size := hbA.size
  have hbW := below_ext hbA hbn
  have Ba_2 := Lib.hid hdn
  have hvl : HasVal (fun z => W1.heap.size ≤ z ∧ z < wA1.heap.size) W2 _ _ := (relV.lt hvn).ext_to (fun z hz => ⟨Nat.le_trans (by first | exact Nat.le_refl _ | (simp; done) | (simp; omega)) hz.1, hz.2⟩) (fun z hz _ => hbn.block z hz.2)
  have Va_2 := Lib.hid hvl
  have Bv_2 := Lib.hid (Bv_1.out.ext hbW)
  have Bx_2 := Lib.hid (Bx_1.out.ext hbW)
  have Bg_2 := Lib.hid (Bg_1.out.ext hbW)
  have Vv_2 := Lib.hid (Vv_1.out.ext hbW)
  have Vx_2 := Lib.hid (Vx_1.out.ext hbW)
  have Vg_2 := Lib.hid (Vg_1.out.ext hbW)
  have BB_2 := Lib.hid (BB_1.out.trans (hbW.mono BB_1.out.size))
  have hsz_2 := BB_2.out.size
  clear Bv_1 Bx_1 Bg_1 Vv_1 Vx_1 Vg_1
  clear hWB hdn hbn hbW hbA hb hvn hvl HC
  have hv := Bv_2.out
  have cv0 := hv.cell (i := 0) rfl
  have cv1 := hv.cell (i := 1) rfl
  have cv2 := hv.cell (i := 2) rfl
  have cv3 := hv.cell (i := 3) rfl
  have cv4 := hv.cell (i := 4) rfl
  have cv5 := hv.cell (i := 5) rfl
  have hlv := hv.lt
  clear hv
  have hc := rget_any (.mk kv bv nv sv lv fv) path _ S2 _ pp pc _ Vv_2.out (HP.out.ext BB_2.out) (by rw [← HPN.out]; omega)
  unfold GetPost at hc
  rw [← HQ1.out, ← HZa.out, ← HPN.out] at hc
  have HC := Lib.hid hc
  clear hc
  go_wp2_with fail
  go_at_call 24
  refine HC.out.mono ?_
  rintro e' wA2 ⟨cb, rfl, hvn, hb⟩
  obtain ⟨plb, clb, pfb, cfb, rfl, _⟩ := hasVal_mk.1 hvn
  have hbA := hb
  clear cv0 cv1 cv2 cv3 cv4 cv5 hlv
  go_upto_region 4 with (fail)
  generalize hWB : World.alloc _ _ = W3
  have hdn : IsBlk W3 wA2.heap.size #[.int .u8 (ka : Int), .bool ba, .int .i64 na, .string (bs sa), .slice plb la.length clb, .slice pfb fa.length cfb] 26 := by rw [← hWB]; exact IsBlk.new _ _ _
  have hbn : Below wA2.heap.size wA2 W3 := by rw [← hWB]; exact (Below.refl _ _).alloc (Nat.le_refl _) _
  have hsn_3 : W3.heap.size ≤ wA2.heap.size + 1 ∧ wA2.heap.size + 1 ≤ W3.heap.size := by rw [← hWB]; simp
  have hsa_3 : W2.heap.size ≤ wA2.heap.size := hbA.size
  have hbW := below_ext hbA hbn
  have Bb_3 := Lib.hid hdn
  have hvl : HasVal (fun z => W2.heap.size ≤ z ∧ z < wA2.heap.size) W3 _ _ := (relV.lt hvn).ext_to (fun z hz => ⟨Nat.le_trans (by first | exact Nat.le_refl _ | (simp; done) | (simp; omega)) hz.1, hz.2⟩) (fun z hz _ => hbn.block z hz.2)
  have Vb_3 := Lib.hid hvl
  have Bv_3 := Lib.hid (Bv_2.out.ext hbW)
  have Bx_3 := Lib.hid (Bx_2.out.ext hbW)
  have Bg_3 := Lib.hid (Bg_2.out.ext hbW)
  have Ba_3 := Lib.hid (Ba_2.out.ext hbW)
  have Vv_3 := Lib.hid (Vv_2.out.ext hbW)
  have Vx_3 := Lib.hid (Vx_2.out.ext hbW)
  have Vg_3 := Lib.hid (Vg_2.out.ext hbW)
  have Va_3 := Lib.hid (Va_2.out.ext hbW)
  have BB_3 := Lib.hid (BB_2.out.trans (hbW.mono BB_2.out.size))
  have hsz_3 := BB_3.out.size
  clear Bv_2 Bx_2 Bg_2 Ba_2 Vv_2 Vx_2 Vg_2 Va_2
  clear hWB hdn hbn hbW hbA hb hvn hvl HC
  have hg := Bg_3.out
  have cg0 := hg.cell (i := 0) rfl
  have cg1 := hg.cell (i := 1) rfl
  have cg2 := hg.cell (i := 2) rfl
  have cg3 := hg.cell (i := 3) rfl
  have cg4 := hg.cell (i := 4) rfl
  have cg5 := hg.cell (i := 5) rfl
  have hlg := hg.lt
  have hx := Bx_3.out
  have cx0 := hx.cell (i := 0) rfl
  have cx1 := hx.cell (i := 1) rfl
  have cx2 := hx.cell (i := 2) rfl
  have cx3 := hx.cell (i := 3) rfl
  have cx4 := hx.cell (i := 4) rfl
  have cx5 := hx.cell (i := 5) rfl
  have hlx := hx.lt
  clear hg hx
  have hc := put_any kv bv nv sv lv fv name (.mk kx bx nx sx lx fx) _ _ _ _ _ Vg_3.out Vx_3.out hnl (by omega)
  rw [← HZc.out, ← HC6.out] at hc
  have HC := Lib.hid hc
  clear hc
  go_wp2_with fail
  go_at_call 14
  refine HC.out.mono ?_
  rintro e' wA3 ⟨cc, rfl, hvn, _, hb⟩
  obtain ⟨plc, clc, pfc, cfc, rfl, _⟩ := hasVal_mk.1 hvn
  have hbA := hb
  clear cg0 cg1 cg2 cg3 cg4 cg5 cx0 cx1 cx2 cx3 cx4 cx5 hlg hlx
  go_upto_region 5 with (fail)
  generalize hWB : World.alloc _ _ = W4
  have hdn : IsBlk W4 wA3.heap.size #[.int .u8 (kc : Int), .bool bc, .int .i64 nc, .string (bs sc), .slice plc lc.length clc, .slice pfc fc.length cfc] 26 := by rw [← hWB]; exact IsBlk.new _ _ _
  have hbn : Below wA3.heap.size wA3 W4 := by rw [← hWB]; exact (Below.refl _ _).alloc (Nat.le_refl _) _
  have hsn_4 : W4.heap.size ≤ wA3.heap.size + 1 ∧ wA3.heap.size + 1 ≤ W4.heap.size := by rw [← hWB]; simp
  have hsa_4 : W3.heap.size ≤ wA3.heap.size := hbA.size
  have hbW := below_ext hbA hbn
  have Bc_4 := Lib.hid hdn
  have hvl : HasVal (fun z => W3.heap.size ≤ z ∧ z < wA3.heap.size) W4 _ _ := (relV.lt hvn).ext_to (fun z hz => ⟨Nat.le_trans (by first | exact Nat.le_refl _ | (simp; done) | (simp; omega)) hz.1, hz.2⟩) (fun z hz _ => hbn.block z hz.2)
  have Vc_4 := Lib.hid hvl
  have Bv_4 := Lib.hid (Bv_3.out.ext hbW)
  have Bx_4 := Lib.hid (Bx_3.out.ext hbW)
  have Bg_4 := Lib.hid (Bg_3.out.ext hbW)
  have Ba_4 := Lib.hid (Ba_3.out.ext hbW)
  have Bb_4 := Lib.hid (Bb_3.out.ext hbW)
  have Vv_4 := Lib.hid (Vv_3.out.ext hbW)
  have Vx_4 := Lib.hid (Vx_3.out.ext hbW)
  have Vg_4 := Lib.hid (Vg_3.out.ext hbW)
  have Va_4 := Lib.hid (Va_3.out.ext hbW)
  have Vb_4 := Lib.hid (Vb_3.out.ext hbW)
  have BB_4 := Lib.hid (BB_3.out.trans (hbW.mono BB_3.out.size))
  have hsz_4 := BB_4.out.size
  clear Bv_3 Bx_3 Bg_3 Ba_3 Bb_3 Vv_3 Vx_3 Vg_3 Va_3 Vb_3
  clear hWB hdn hbn hbW hbA hb hvn hvl HC
  have hv := Bv_4.out
  have cv0 := hv.cell (i := 0) rfl
  have cv1 := hv.cell (i := 1) rfl
  have cv2 := hv.cell (i := 2) rfl
  have cv3 := hv.cell (i := 3) rfl
  have cv4 := hv.cell (i := 4) rfl
  have cv5 := hv.cell (i := 5) rfl
  have hlv := hv.lt
  have hx := Bx_4.out
  have cx0 := hx.cell (i := 0) rfl
  have cx1 := hx.cell (i := 1) rfl
  have cx2 := hx.cell (i := 2) rfl
  have cx3 := hx.cell (i := 3) rfl
  have cx4 := hx.cell (i := 4) rfl
  have cx5 := hx.cell (i := 5) rfl
  have hlx := hx.lt
  clear hv hx
  have hc := rput_any kv bv nv sv lv fv name (.mk kx bx nx sx lx fx) _ _ _ _ _ Vv_4.out Vx_4.out hnl (by omega)
  rw [← HZc.out, ← HC6.out] at hc
  have HC := Lib.hid hc
  clear hc
  go_wp2_with fail
  go_at_call 25
  refine HC.out.mono ?_
  rintro e' wA4 ⟨cd, rfl, hvn, hb⟩
  obtain ⟨pld, cld, pfd, cfd, rfl, _⟩ := hasVal_mk.1 hvn
  have hbA := hb
  clear cv0 cv1 cv2 cv3 cv4 cv5 cx0 cx1 cx2 cx3 cx4 cx5 hlv hlx
  go_upto_region 6 with (fail)
  generalize hWB : World.alloc _ _ = W5
  have hdn : IsBlk W5 wA4.heap.size #[.int .u8 (kc : Int), .bool bc, .int .i64 nc, .string (bs sc), .slice pld lc.length cld, .slice pfd fc.length cfd] 26 := by rw [← hWB]; exact IsBlk.new _ _ _
  have hbn : Below wA4.heap.size wA4 W5 := by rw [← hWB]; exact (Below.refl _ _).alloc (Nat.le_refl _) _
  have hsn_5 : W5.heap.size ≤ wA4.heap.size + 1 ∧ wA4.heap.size + 1 ≤ W5.heap.size := by rw [← hWB]; simp
  have hsa_5 : W4.heap.size ≤ wA4.heap.size := hbA.size
  have hbW := below_ext hbA hbn
  have Bd_5 := Lib.hid hdn
  have hvl : HasVal (fun z => W4.heap.size ≤ z ∧ z < wA4.heap.size) W5 _ _ := (relV.lt hvn).ext_to (fun z hz => ⟨Nat.le_trans (by first | exact Nat.le_refl _ | (simp; done) | (simp; omega)) hz.1, hz.2⟩) (fun z hz _ => hbn.block z hz.2)
  have Vd_5 := Lib.hid hvl
  have Bv_5 := Lib.hid (Bv_4.out.ext hbW)
  have Bx_5 := Lib.hid (Bx_4.out.ext hbW)
  have Bg_5 := Lib.hid (Bg_4.out.ext hbW)
  have Ba_5 := Lib.hid (Ba_4.out.ext hbW)
  have Bb_5 := Lib.hid (Bb_4.out.ext hbW)
  have Bc_5 := Lib.hid (Bc_4.out.ext hbW)
  have Vv_5 := Lib.hid (Vv_4.out.ext hbW)
  have Vx_5 := Lib.hid (Vx_4.out.ext hbW)
  have Vg_5 := Lib.hid (Vg_4.out.ext hbW)
  have Va_5 := Lib.hid (Va_4.out.ext hbW)
  have Vb_5 := Lib.hid (Vb_4.out.ext hbW)
  have Vc_5 := Lib.hid (Vc_4.out.ext hbW)
  have BB_5 := Lib.hid (BB_4.out.trans (hbW.mono BB_4.out.size))
  have hsz_5 := BB_5.out.size
  clear Bv_4 Bx_4 Bg_4 Ba_4 Bb_4 Bc_4 Vv_4 Vx_4 Vg_4 Va_4 Vb_4 Vc_4
  clear hWB hdn hbn hbW hbA hb hvn hvl HC
  have hg := Bg_5.out
  have cg0 := hg.cell (i := 0) rfl
  have cg1 := hg.cell (i := 1) rfl
  have cg2 := hg.cell (i := 2) rfl
  have cg3 := hg.cell (i := 3) rfl
  have cg4 := hg.cell (i := 4) rfl
  have cg5 := hg.cell (i := 5) rfl
  have hlg := hg.lt
  clear hg
  have hc := drop_any kv bv nv sv lv fv name _ _ _ Vg_5.out (by omega)
  rw [← HZe.out, ← HC6.out] at hc
  have HC := Lib.hid hc
  clear hc
  go_wp2_with fail
  go_at_call 26
  refine HC.out.mono ?_
  rintro e' wA5 ⟨ce, rfl, hvn, _, hb⟩
  obtain ⟨ple, cle, pfe, cfe, rfl, _⟩ := hasVal_mk.1 hvn
  have hbA := hb
  clear cg0 cg1 cg2 cg3 cg4 cg5 hlg
  go_upto_region 7 with (fail)
  generalize hWB : World.alloc _ _ = W6
  have hdn : IsBlk W6 wA5.heap.size #[.int .u8 (ke : Int), .bool be, .int .i64 ne, .string (bs se), .slice ple le.length cle, .slice pfe fe.length cfe] 26 := by rw [← hWB]; exact IsBlk.new _ _ _
  have hbn : Below wA5.heap.size wA5 W6 := by rw [← hWB]; exact (Below.refl _ _).alloc (Nat.le_refl _) _
  have hsn_6 : W6.heap.size ≤ wA5.heap.size + 1 ∧ wA5.heap.size + 1 ≤ W6.heap.size := by rw [← hWB]; simp
  have hsa_6 : W5.heap.size ≤ wA5.heap.size := hbA.size
  have hbW := below_ext hbA hbn
  have Be_6 := Lib.hid hdn
  have hvl : HasVal (fun z => W5.heap.size ≤ z ∧ z < wA5.heap.size) W6 _ _ := (relV.lt hvn).ext_to (fun z hz => ⟨Nat.le_trans (by first | exact Nat.le_refl _ | (simp; done) | (simp; omega)) hz.1, hz.2⟩) (fun z hz _ => hbn.block z hz.2)
  have Ve_6 := Lib.hid hvl
  have Bv_6 := Lib.hid (Bv_5.out.ext hbW)
  have Bx_6 := Lib.hid (Bx_5.out.ext hbW)
  have Bg_6 := Lib.hid (Bg_5.out.ext hbW)
  have Ba_6 := Lib.hid (Ba_5.out.ext hbW)
  have Bb_6 := Lib.hid (Bb_5.out.ext hbW)
  have Bc_6 := Lib.hid (Bc_5.out.ext hbW)
  have Bd_6 := Lib.hid (Bd_5.out.ext hbW)
  have Vv_6 := Lib.hid (Vv_5.out.ext hbW)
  have Vx_6 := Lib.hid (Vx_5.out.ext hbW)
  have Vg_6 := Lib.hid (Vg_5.out.ext hbW)
  have Va_6 := Lib.hid (Va_5.out.ext hbW)
  have Vb_6 := Lib.hid (Vb_5.out.ext hbW)
  have Vc_6 := Lib.hid (Vc_5.out.ext hbW)
  have Vd_6 := Lib.hid (Vd_5.out.ext hbW)
  have BB_6 := Lib.hid (BB_5.out.trans (hbW.mono BB_5.out.size))
  have hsz_6 := BB_6.out.size
  clear Bv_5 Bx_5 Bg_5 Ba_5 Bb_5 Bc_5 Bd_5 Vv_5 Vx_5 Vg_5 Va_5 Vb_5 Vc_5 Vd_5
  clear hWB hdn hbn hbW hbA hb hvn hvl HC
  have hv := Bv_6.out
  have cv0 := hv.cell (i := 0) rfl
  have cv1 := hv.cell (i := 1) rfl
  have cv2 := hv.cell (i := 2) rfl
  have cv3 := hv.cell (i := 3) rfl
  have cv4 := hv.cell (i := 4) rfl
  have cv5 := hv.cell (i := 5) rfl
  have hlv := hv.lt
  clear hv
  have hc := rdrop_any kv bv nv sv lv fv name _ _ _ Vv_6.out (by omega)
  rw [← HZe.out, ← HC6.out] at hc
  have HC := Lib.hid hc
  clear hc
  go_wp2_with fail
  go_at_call 27
  refine HC.out.mono ?_
  rintro e' wA6 ⟨cf, rfl, hvn, hb⟩
  obtain ⟨plf, clf, pff, cff, rfl, _⟩ := hasVal_mk.1 hvn
  have hbA := hb
  clear cv0 cv1 cv2 cv3 cv4 cv5 hlv
  go_upto_region 8 with (fail)
  generalize hWB : World.alloc _ _ = W7
  have hdn : IsBlk W7 wA6.heap.size #[.int .u8 (ke : Int), .bool be, .int .i64 ne, .string (bs se), .slice plf le.length clf, .slice pff fe.length cff] 26 := by rw [← hWB]; exact IsBlk.new _ _ _
  have hbn : Below wA6.heap.size wA6 W7 := by rw [← hWB]; exact (Below.refl _ _).alloc (Nat.le_refl _) _
  have hsn_7 : W7.heap.size ≤ wA6.heap.size + 1 ∧ wA6.heap.size + 1 ≤ W7.heap.size := by rw [← hWB]; simp
  have hsa_7 : W6.heap.size ≤ wA6.heap.size := hbA.size
  have hbW := below_ext hbA hbn
  have Bf_7 := Lib.hid hdn
  have hvl : HasVal (fun z => W6.heap.size ≤ z ∧ z < wA6.heap.size) W7 _ _ := (relV.lt hvn).ext_to (fun z hz => ⟨Nat.le_trans (by first | exact Nat.le_refl _ | (simp; done) | (simp; omega)) hz.1, hz.2⟩) (fun z hz _ => hbn.block z hz.2)
  have Vf_7 := Lib.hid hvl
  have Bv_7 := Lib.hid (Bv_6.out.ext hbW)
  have Bx_7 := Lib.hid (Bx_6.out.ext hbW)
  have Bg_7 := Lib.hid (Bg_6.out.ext hbW)
  have Ba_7 := Lib.hid (Ba_6.out.ext hbW)
  have Bb_7 := Lib.hid (Bb_6.out.ext hbW)
  have Bc_7 := Lib.hid (Bc_6.out.ext hbW)
  have Bd_7 := Lib.hid (Bd_6.out.ext hbW)
  have Be_7 := Lib.hid (Be_6.out.ext hbW)
  have Vv_7 := Lib.hid (Vv_6.out.ext hbW)
  have Vx_7 := Lib.hid (Vx_6.out.ext hbW)
  have Vg_7 := Lib.hid (Vg_6.out.ext hbW)
  have Va_7 := Lib.hid (Va_6.out.ext hbW)
  have Vb_7 := Lib.hid (Vb_6.out.ext hbW)
  have Vc_7 := Lib.hid (Vc_6.out.ext hbW)
  have Vd_7 := Lib.hid (Vd_6.out.ext hbW)
  have Ve_7 := Lib.hid (Ve_6.out.ext hbW)
  have BB_7 := Lib.hid (BB_6.out.trans (hbW.mono BB_6.out.size))
  have hsz_7 := BB_7.out.size
  clear Bv_6 Bx_6 Bg_6 Ba_6 Bb_6 Bc_6 Bd_6 Be_6 Vv_6 Vx_6 Vg_6 Va_6 Vb_6 Vc_6 Vd_6 Ve_6
  clear hWB hdn hbn hbW hbA hb hvn hvl HC
  have hc := HLIV.out _ BB_7.out
  have HC := Lib.hid hc
  clear hc
  go_wp2_with fail
  go_at_call 11
  refine HC.out.mono ?_
  rintro e' W8 ⟨rfl, hb⟩
  have hbA := hb
  have hsa_8 : W7.heap.size ≤ W8.heap.size := hbA.size
  have Bv_8 := Lib.hid (Bv_7.out.ext hbA)
  have Bx_8 := Lib.hid (Bx_7.out.ext hbA)
  have Bg_8 := Lib.hid (Bg_7.out.ext hbA)
  have Ba_8 := Lib.hid (Ba_7.out.ext hbA)
  have Bb_8 := Lib.hid (Bb_7.out.ext hbA)
  have Bc_8 := Lib.hid (Bc_7.out.ext hbA)
  have Bd_8 := Lib.hid (Bd_7.out.ext hbA)
  have Be_8 := Lib.hid (Be_7.out.ext hbA)
  have Bf_8 := Lib.hid (Bf_7.out.ext hbA)
  have Vv_8 := Lib.hid (Vv_7.out.ext hbA)
  have Vx_8 := Lib.hid (Vx_7.out.ext hbA)
  have Vg_8 := Lib.hid (Vg_7.out.ext hbA)
  have Va_8 := Lib.hid (Va_7.out.ext hbA)
  have Vb_8 := Lib.hid (Vb_7.out.ext hbA)
  have Vc_8 := Lib.hid (Vc_7.out.ext hbA)
  have Vd_8 := Lib.hid (Vd_7.out.ext hbA)
  have Ve_8 := Lib.hid (Ve_7.out.ext hbA)
  have Vf_8 := Lib.hid (Vf_7.out.ext hbA)
  have BB_8 := Lib.hid (BB_7.out.trans (hbA.mono BB_7.out.size))
  have hsz_8 := BB_8.out.size
  clear Bv_7 Bx_7 Bg_7 Ba_7 Bb_7 Bc_7 Bd_7 Be_7 Bf_7 Vv_7 Vx_7 Vg_7 Va_7 Vb_7 Vc_7 Vd_7 Ve_7 Vf_7
  clear hb hbA HC
  have ha := Ba_8.out
  have ca0 := ha.cell (i := 0) rfl
  have ca1 := ha.cell (i := 1) rfl
  have ca2 := ha.cell (i := 2) rfl
  have ca3 := ha.cell (i := 3) rfl
  have ca4 := ha.cell (i := 4) rfl
  have ca5 := ha.cell (i := 5) rfl
  have hla := ha.lt
  have hb := Bb_8.out
  have cb0 := hb.cell (i := 0) rfl
  have cb1 := hb.cell (i := 1) rfl
  have cb2 := hb.cell (i := 2) rfl
  have cb3 := hb.cell (i := 3) rfl
  have cb4 := hb.cell (i := 4) rfl
  have cb5 := hb.cell (i := 5) rfl
  have hlb := hb.lt
  clear ha hb
  have hc := ref_same_any (.mk ka ba na sa la fa) (.mk ka ba na sa la fa) _ _ _ _ _ Va_8.out Vb_8.out
  rw [same_refl] at hc
  have HC := Lib.hid hc
  clear hc
  go_wp2_with fail
  go_at_call 17
  refine HC.out.mono ?_
  rintro e' W9 ⟨rfl, hb⟩
  clear ca0 ca1 ca2 ca3 ca4 ca5 cb0 cb1 cb2 cb3 cb4 cb5 hla hlb
  have hbA := hb
  have hsa_9 : W8.heap.size ≤ W9.heap.size := hbA.size
  have Bv_9 := Lib.hid (Bv_8.out.ext hbA)
  have Bx_9 := Lib.hid (Bx_8.out.ext hbA)
  have Bg_9 := Lib.hid (Bg_8.out.ext hbA)
  have Ba_9 := Lib.hid (Ba_8.out.ext hbA)
  have Bb_9 := Lib.hid (Bb_8.out.ext hbA)
  have Bc_9 := Lib.hid (Bc_8.out.ext hbA)
  have Bd_9 := Lib.hid (Bd_8.out.ext hbA)
  have Be_9 := Lib.hid (Be_8.out.ext hbA)
  have Bf_9 := Lib.hid (Bf_8.out.ext hbA)
  have Vv_9 := Lib.hid (Vv_8.out.ext hbA)
  have Vx_9 := Lib.hid (Vx_8.out.ext hbA)
  have Vg_9 := Lib.hid (Vg_8.out.ext hbA)
  have Va_9 := Lib.hid (Va_8.out.ext hbA)
  have Vb_9 := Lib.hid (Vb_8.out.ext hbA)
  have Vc_9 := Lib.hid (Vc_8.out.ext hbA)
  have Vd_9 := Lib.hid (Vd_8.out.ext hbA)
  have Ve_9 := Lib.hid (Ve_8.out.ext hbA)
  have Vf_9 := Lib.hid (Vf_8.out.ext hbA)
  have BB_9 := Lib.hid (BB_8.out.trans (hbA.mono BB_8.out.size))
  have hsz_9 := BB_9.out.size
  clear Bv_8 Bx_8 Bg_8 Ba_8 Bb_8 Bc_8 Bd_8 Be_8 Bf_8 Vv_8 Vx_8 Vg_8 Va_8 Vb_8 Vc_8 Vd_8 Ve_8 Vf_8
  clear hb hbA HC
  have hc := Bc_9.out
  have cc0 := hc.cell (i := 0) rfl
  have cc1 := hc.cell (i := 1) rfl
  have cc2 := hc.cell (i := 2) rfl
  have cc3 := hc.cell (i := 3) rfl
  have cc4 := hc.cell (i := 4) rfl
  have cc5 := hc.cell (i := 5) rfl
  have hlc := hc.lt
  have hd := Bd_9.out
  have cd0 := hd.cell (i := 0) rfl
  have cd1 := hd.cell (i := 1) rfl
  have cd2 := hd.cell (i := 2) rfl
  have cd3 := hd.cell (i := 3) rfl
  have cd4 := hd.cell (i := 4) rfl
  have cd5 := hd.cell (i := 5) rfl
  have hld := hd.lt
  clear hc hd
  have hc := ref_same_any (.mk kc bc nc sc lc fc) (.mk kc bc nc sc lc fc) _ _ _ _ _ Vc_9.out Vd_9.out
  rw [same_refl] at hc
  have HC := Lib.hid hc
  clear hc
  go_wp2_with fail
  go_at_call 17
  refine HC.out.mono ?_
  rintro e' W10 ⟨rfl, hb⟩
  clear cc0 cc1 cc2 cc3 cc4 cc5 cd0 cd1 cd2 cd3 cd4 cd5 hlc hld
  have hbA := hb
  have hsa_10 : W9.heap.size ≤ W10.heap.size := hbA.size
  have Bv_10 := Lib.hid (Bv_9.out.ext hbA)
  have Bx_10 := Lib.hid (Bx_9.out.ext hbA)
  have Bg_10 := Lib.hid (Bg_9.out.ext hbA)
  have Ba_10 := Lib.hid (Ba_9.out.ext hbA)
  have Bb_10 := Lib.hid (Bb_9.out.ext hbA)
  have Bc_10 := Lib.hid (Bc_9.out.ext hbA)
  have Bd_10 := Lib.hid (Bd_9.out.ext hbA)
  have Be_10 := Lib.hid (Be_9.out.ext hbA)
  have Bf_10 := Lib.hid (Bf_9.out.ext hbA)
  have Vv_10 := Lib.hid (Vv_9.out.ext hbA)
  have Vx_10 := Lib.hid (Vx_9.out.ext hbA)
  have Vg_10 := Lib.hid (Vg_9.out.ext hbA)
  have Va_10 := Lib.hid (Va_9.out.ext hbA)
  have Vb_10 := Lib.hid (Vb_9.out.ext hbA)
  have Vc_10 := Lib.hid (Vc_9.out.ext hbA)
  have Vd_10 := Lib.hid (Vd_9.out.ext hbA)
  have Ve_10 := Lib.hid (Ve_9.out.ext hbA)
  have Vf_10 := Lib.hid (Vf_9.out.ext hbA)
  have BB_10 := Lib.hid (BB_9.out.trans (hbA.mono BB_9.out.size))
  have hsz_10 := BB_10.out.size
  clear Bv_9 Bx_9 Bg_9 Ba_9 Bb_9 Bc_9 Bd_9 Be_9 Bf_9 Vv_9 Vx_9 Vg_9 Va_9 Vb_9 Vc_9 Vd_9 Ve_9 Vf_9
  clear hb hbA HC
  have he := Be_10.out
  have ce0 := he.cell (i := 0) rfl
  have ce1 := he.cell (i := 1) rfl
  have ce2 := he.cell (i := 2) rfl
  have ce3 := he.cell (i := 3) rfl
  have ce4 := he.cell (i := 4) rfl
  have ce5 := he.cell (i := 5) rfl
  have hle := he.lt
  have hf := Bf_10.out
  have cf0 := hf.cell (i := 0) rfl
  have cf1 := hf.cell (i := 1) rfl
  have cf2 := hf.cell (i := 2) rfl
  have cf3 := hf.cell (i := 3) rfl
  have cf4 := hf.cell (i := 4) rfl
  have cf5 := hf.cell (i := 5) rfl
  have hlf := hf.lt
  clear he hf
  have hc := ref_same_any (.mk ke be ne se le fe) (.mk ke be ne se le fe) _ _ _ _ _ Ve_10.out Vf_10.out
  rw [same_refl] at hc
  have HC := Lib.hid hc
  clear hc
  go_wp2_with fail
  go_at_call 17
  refine HC.out.mono ?_
  rintro e' W11 ⟨rfl, hb⟩
  clear ce0 ce1 ce2 ce3 ce4 ce5 cf0 cf1 cf2 cf3 cf4 cf5 hle hlf
  have hbA := hb
  have hsa_11 : W10.heap.size ≤ W11.heap.size := hbA.size
  have Bv_11 := Lib.hid (Bv_10.out.ext hbA)
  have Bx_11 := Lib.hid (Bx_10.out.ext hbA)
  have Bg_11 := Lib.hid (Bg_10.out.ext hbA)
  have Ba_11 := Lib.hid (Ba_10.out.ext hbA)
  have Bb_11 := Lib.hid (Bb_10.out.ext hbA)
  have Bc_11 := Lib.hid (Bc_10.out.ext hbA)
  have Bd_11 := Lib.hid (Bd_10.out.ext hbA)
  have Be_11 := Lib.hid (Be_10.out.ext hbA)
  have Bf_11 := Lib.hid (Bf_10.out.ext hbA)
  have Vv_11 := Lib.hid (Vv_10.out.ext hbA)
  have Vx_11 := Lib.hid (Vx_10.out.ext hbA)
  have Vg_11 := Lib.hid (Vg_10.out.ext hbA)
  have Va_11 := Lib.hid (Va_10.out.ext hbA)
  have Vb_11 := Lib.hid (Vb_10.out.ext hbA)
  have Vc_11 := Lib.hid (Vc_10.out.ext hbA)
  have Vd_11 := Lib.hid (Vd_10.out.ext hbA)
  have Ve_11 := Lib.hid (Ve_10.out.ext hbA)
  have Vf_11 := Lib.hid (Vf_10.out.ext hbA)
  have BB_11 := Lib.hid (BB_10.out.trans (hbA.mono BB_10.out.size))
  have hsz_11 := BB_11.out.size
  clear Bv_10 Bx_10 Bg_10 Ba_10 Bb_10 Bc_10 Bd_10 Be_10 Bf_10 Vv_10 Vx_10 Vg_10 Va_10 Vb_10 Vc_10 Vd_10 Ve_10 Vf_10
  clear hb hbA HC
  have hg := Bg_11.out
  have cg0 := hg.cell (i := 0) rfl
  have cg1 := hg.cell (i := 1) rfl
  have cg2 := hg.cell (i := 2) rfl
  have cg3 := hg.cell (i := 3) rfl
  have cg4 := hg.cell (i := 4) rfl
  have cg5 := hg.cell (i := 5) rfl
  have hlg := hg.lt
  have hv := Bv_11.out
  have cv0 := hv.cell (i := 0) rfl
  have cv1 := hv.cell (i := 1) rfl
  have cv2 := hv.cell (i := 2) rfl
  have cv3 := hv.cell (i := 3) rfl
  have cv4 := hv.cell (i := 4) rfl
  have cv5 := hv.cell (i := 5) rfl
  have hlv := hv.lt
  clear hg hv
  have hc := ref_same_any (.mk kv bv nv sv lv fv) (.mk kv bv nv sv lv fv) _ _ _ _ _ Vg_11.out Vv_11.out
  rw [same_refl] at hc
  have HC := Lib.hid hc
  clear hc
  go_wp2_with fail
  go_at_call 17
  refine HC.out.mono ?_
  rintro e' W12 ⟨rfl, hb⟩
  clear cg0 cg1 cg2 cg3 cg4 cg5 cv0 cv1 cv2 cv3 cv4 cv5 hlg hlv
  have hbA := hb
  have hsa_12 : W11.heap.size ≤ W12.heap.size := hbA.size
  have Bv_12 := Lib.hid (Bv_11.out.ext hbA)
  have Bx_12 := Lib.hid (Bx_11.out.ext hbA)
  have Bg_12 := Lib.hid (Bg_11.out.ext hbA)
  have Ba_12 := Lib.hid (Ba_11.out.ext hbA)
  have Bb_12 := Lib.hid (Bb_11.out.ext hbA)
  have Bc_12 := Lib.hid (Bc_11.out.ext hbA)
  have Bd_12 := Lib.hid (Bd_11.out.ext hbA)
  have Be_12 := Lib.hid (Be_11.out.ext hbA)
  have Bf_12 := Lib.hid (Bf_11.out.ext hbA)
  have Vv_12 := Lib.hid (Vv_11.out.ext hbA)
  have Vx_12 := Lib.hid (Vx_11.out.ext hbA)
  have Vg_12 := Lib.hid (Vg_11.out.ext hbA)
  have Va_12 := Lib.hid (Va_11.out.ext hbA)
  have Vb_12 := Lib.hid (Vb_11.out.ext hbA)
  have Vc_12 := Lib.hid (Vc_11.out.ext hbA)
  have Vd_12 := Lib.hid (Vd_11.out.ext hbA)
  have Ve_12 := Lib.hid (Ve_11.out.ext hbA)
  have Vf_12 := Lib.hid (Vf_11.out.ext hbA)
  have BB_12 := Lib.hid (BB_11.out.trans (hbA.mono BB_11.out.size))
  have hsz_12 := BB_12.out.size
  clear Bv_11 Bx_11 Bg_11 Ba_11 Bb_11 Bc_11 Bd_11 Be_11 Bf_11 Vv_11 Vx_11 Vg_11 Va_11 Vb_11 Vc_11 Vd_11 Ve_11 Vf_11
  clear hb hbA HC
  go_wp2
  go_ret
  exact ⟨rfl, BB_12.out⟩
end Go.Proofs.YthcojmpigdojoaaDoor
