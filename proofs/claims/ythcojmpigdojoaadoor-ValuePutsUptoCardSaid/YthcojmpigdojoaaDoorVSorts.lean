/- ValueSorts: fields that are put in either order make the same struct, if their names are unlike; of one name the last one counts. Conditions: the values and names lie in memory; the bulk is at most 2^20; the tables and the two errors read as the texts lay them. -/
import Derived.Test.YthcojmpigdojoaaDoorVParts
import Derived.Test.YthcojmpigdojoaaDoorPutL
set_option linter.unusedVariables false
set_option linter.unusedSimpArgs false
namespace Go.Proofs.YthcojmpigdojoaaDoor
open Go Go.RowKit Go.BigFrame
set_option maxRecDepth 100000

theorem hasS1 {w : World} {g : Nat} {t : TypeId} {a : List UInt8} (hG : IsBlk w g #[.string (bs a)] t) : HasS (fun _ => True) w (some ⟨g, 0, none⟩) [a] := fun i hi => by
  refine ⟨g, 0, rfl, trivial, hG.lt, ?_⟩
  rw [Nat.zero_add]
  match i, hi with
  | 0, _ => exact hG.cell rfl
set_option maxHeartbeats 16000000 in
theorem sorts_any (V X U : DVal) (a b : List UInt8) (S SX SU : Nat → Prop) (cv cx cu : List Value) (w : World) (hV : HasVal S w V cv) (hX : HasVal SX w X cx) (hU : HasVal SU w U cu) (hna : a.length ≤ 1048576) (hnb : b.length ≤ 1048576) (hN : NumT w) (hU8 : U8T w) (hbv : bulkV V ≤ 1048576) :
    Calls Tryd.prog 8 #[.agg cv.toArray, .string (bs a), .string (bs b), .agg cx.toArray, .agg cu.toArray] w fun e' w' => e' = .returned (.bool true) ∧ Below w.heap.size w w' := by
  have HNT := Lib.hid hN
  have HUT := Lib.hid hU8
  have HLIV := Lib.hid (fun w' (hb : Below w.heap.size w w') => vlives_any w' (hN.ext hb) (U8T_ext hU8 hb))
  have Hv0 := Lib.hid hV
  have Hx0 := Lib.hid hX
  have Hu0 := Lib.hid hU
  obtain ⟨kv, bv, nv, sv, lv, fv⟩ := V
  obtain ⟨kx, bx, nx, sx, lx, fx⟩ := X
  obtain ⟨ku, bu, nu, su, lu, fu⟩ := U
  have hfl := len_bulk hbv
  obtain ⟨plv, clv, pfv, cfv, rfl, _⟩ := hasVal_mk.1 hV
  obtain ⟨plx, clx, pfx, cfx, rfl, _⟩ := hasVal_mk.1 hX
  obtain ⟨plu, clu, pfu, cfu, rfl, _⟩ := hasVal_mk.1 hU
  have Hv := Lib.hid (relV.lt Hv0.out)
  have Hx := Lib.hid (relV.lt Hx0.out)
  have Hu := Lib.hid (relV.lt Hu0.out)
  clear hN hU8 hV Hv0 hX Hx0 hU Hu0
  by_cases hk : kv = 6
  case neg =>
    obtain ⟨Zp, hZp⟩ : ∃ Z, Z = putV a (.mk kx bx nx sx lx fx) (.mk kv bv nv sv lv fv) := ⟨_, rfl⟩
    have HZp := Lib.hid hZp
    obtain ⟨Zq, hZq⟩ : ∃ Z, Z = putV b (.mk ku bu nu su lu fu) (.mk kv bv nv sv lv fv) := ⟨_, rfl⟩
    have HZq := Lib.hid hZq
    obtain ⟨kp, bp, np, sp, lp, fp⟩ := Zp
    obtain ⟨kq, bq, nq, sq, lq, fq⟩ := Zq
    have HK := Lib.hid hk
    clear hk hZp hZq
    show Calls Tryd.prog 8 #[.agg #[.int .u8 (kv : Int), .bool bv, .int .i64 nv, .string (bs sv), .slice plv lv.length clv, .slice pfv fv.length cfv], .string (bs a), .string (bs b), .agg #[.int .u8 (kx : Int), .bool bx, .int .i64 nx, .string (bs sx), .slice plx lx.length clx, .slice pfx fx.length cfx], .agg #[.int .u8 (ku : Int), .bool bu, .int .i64 nu, .string (bs su), .slice plu lu.length clu, .slice pfu fu.length cfu]] w _
    go_enter Tryd.func8, Tryd.ntmps8
    go_upto_region 1 with (fail)
    generalize hW0 : World.alloc (World.alloc (World.alloc w _) _) _ = W0
    have hdv : IsBlk W0 (w.heap.size) #[.int .u8 (kv : Int), .bool bv, .int .i64 nv, .string (bs sv), .slice plv lv.length clv, .slice pfv fv.length cfv] 26 := by rw [← hW0]; exact (((IsBlk.new _ _ _).alloc _).alloc _)
    have hdx : IsBlk W0 (w.heap.size + 1) #[.int .u8 (kx : Int), .bool bx, .int .i64 nx, .string (bs sx), .slice plx lx.length clx, .slice pfx fx.length cfx] 26 := by rw [← hW0]; exact ((IsBlk.new_at (by simp)).alloc _)
    have hdu : IsBlk W0 (w.heap.size + 1 + 1) #[.int .u8 (ku : Int), .bool bu, .int .i64 nu, .string (bs su), .slice plu lu.length clu, .slice pfu fu.length cfu] 26 := by rw [← hW0]; exact (IsBlk.new_at (by simp))
    have hb0 : Below w.heap.size w W0 := by rw [← hW0]; exact (((Below.refl _ _).alloc (Nat.le_refl _) _).alloc (by simp) _).alloc (by simp; omega) _
    have Bv_0 := Lib.hid hdv
    have Bx_0 := Lib.hid hdx
    have Bu_0 := Lib.hid hdu
    have BB_0 := Lib.hid hb0
    have hsz_0 := hb0.size
    have hsw_0 : W0.heap.size ≤ w.heap.size + 3 ∧ w.heap.size + 3 ≤ W0.heap.size := by rw [← hW0]; simp
    have Vv_0 := Lib.hid (Hv.out.ext hb0)
    have Vx_0 := Lib.hid (Hx.out.ext hb0)
    have Vu_0 := Lib.hid (Hu.out.ext hb0)
    clear hW0 hb0 hdv hdx hdu
    have hc := HLIV.out _ BB_0.out
    have HC := Lib.hid hc
    clear hc
    go_wp2_with fail
    go_at_call 11
    refine HC.out.mono ?_
    rintro e' W1 ⟨rfl, hb⟩
    have hbA := hb
    have hsa_1 : W0.heap.size ≤ W1.heap.size := hbA.size
    have Bv_1 := Lib.hid (Bv_0.out.ext hbA)
    have Bx_1 := Lib.hid (Bx_0.out.ext hbA)
    have Bu_1 := Lib.hid (Bu_0.out.ext hbA)
    have Vv_1 := Lib.hid (Vv_0.out.ext hbA)
    have Vx_1 := Lib.hid (Vx_0.out.ext hbA)
    have Vu_1 := Lib.hid (Vu_0.out.ext hbA)
    have BB_1 := Lib.hid (BB_0.out.trans (hbA.mono BB_0.out.size))
    have hsz_1 := BB_1.out.size
    clear Bv_0 Bx_0 Bu_0 Vv_0 Vx_0 Vu_0
    clear hb hbA HC
    have hv := Bv_1.out
    have cv0 := hv.cell (i := 0) rfl
    have cv1 := hv.cell (i := 1) rfl
    have cv2 := hv.cell (i := 2) rfl
    have cv3 := hv.cell (i := 3) rfl
    have cv4 := hv.cell (i := 4) rfl
    have cv5 := hv.cell (i := 5) rfl
    have hlv := hv.lt
    have hx := Bx_1.out
    have cx0 := hx.cell (i := 0) rfl
    have cx1 := hx.cell (i := 1) rfl
    have cx2 := hx.cell (i := 2) rfl
    have cx3 := hx.cell (i := 3) rfl
    have cx4 := hx.cell (i := 4) rfl
    have cx5 := hx.cell (i := 5) rfl
    have hlx := hx.lt
    clear hv hx
    have hc := put_any kv bv nv sv lv fv a (.mk kx bx nx sx lx fx) _ _ _ _ _ Vv_1.out Vx_1.out (by omega) (by omega)
    rw [← HZp.out, if_neg HK.out] at hc
    have HC := Lib.hid hc
    clear hc
    go_wp2_with fail
    go_at_call 14
    refine HC.out.mono ?_
    rintro e' wA1 ⟨cc, rfl, hvn, _, hb⟩
    obtain ⟨plp, clp, pfp, cfp, rfl, _⟩ := hasVal_mk.1 hvn
    have hbA := hb
    clear cv0 cv1 cv2 cv3 cv4 cv5 cx0 cx1 cx2 cx3 cx4 cx5 hlv hlx
    go_upto_region 4 with (fail)
    generalize hWB : World.alloc _ _ = W2
    have hdn : IsBlk W2 wA1.heap.size #[.int .u8 (kp : Int), .bool bp, .int .i64 np, .string (bs sp), .slice plp lp.length clp, .slice pfp fp.length cfp] 26 := by rw [← hWB]; exact IsBlk.new _ _ _
    have hbn : Below wA1.heap.size wA1 W2 := by rw [← hWB]; exact (Below.refl _ _).alloc (Nat.le_refl _) _
    have hsn_2 : W2.heap.size ≤ wA1.heap.size + 1 ∧ wA1.heap.size + 1 ≤ W2.heap.size := by rw [← hWB]; simp
    have hsa_2 : W1.heap.size ≤ wA1.heap.size := hbA.size
    have hbW := below_ext hbA hbn
    have Bp_2 := Lib.hid hdn
    have hvl : HasVal (fun z => W1.heap.size ≤ z ∧ z < wA1.heap.size) W2 _ _ := (relV.lt hvn).ext_to (fun z hz => ⟨Nat.le_trans (by first | exact Nat.le_refl _ | (simp; done) | (simp; omega)) hz.1, hz.2⟩) (fun z hz _ => hbn.block z hz.2)
    have Vp_2 := Lib.hid hvl
    have Bv_2 := Lib.hid (Bv_1.out.ext hbW)
    have Bx_2 := Lib.hid (Bx_1.out.ext hbW)
    have Bu_2 := Lib.hid (Bu_1.out.ext hbW)
    have Vv_2 := Lib.hid (Vv_1.out.ext hbW)
    have Vx_2 := Lib.hid (Vx_1.out.ext hbW)
    have Vu_2 := Lib.hid (Vu_1.out.ext hbW)
    have BB_2 := Lib.hid (BB_1.out.trans (hbW.mono BB_1.out.size))
    have hsz_2 := BB_2.out.size
    clear Bv_1 Bx_1 Bu_1 Vv_1 Vx_1 Vu_1
    clear hWB hdn hbn hbW hbA hb hvn hvl HC
    have hv := Bv_2.out
    have cv0 := hv.cell (i := 0) rfl
    have cv1 := hv.cell (i := 1) rfl
    have cv2 := hv.cell (i := 2) rfl
    have cv3 := hv.cell (i := 3) rfl
    have cv4 := hv.cell (i := 4) rfl
    have cv5 := hv.cell (i := 5) rfl
    have hlv := hv.lt
    have hu := Bu_2.out
    have cu0 := hu.cell (i := 0) rfl
    have cu1 := hu.cell (i := 1) rfl
    have cu2 := hu.cell (i := 2) rfl
    have cu3 := hu.cell (i := 3) rfl
    have cu4 := hu.cell (i := 4) rfl
    have cu5 := hu.cell (i := 5) rfl
    have hlu := hu.lt
    clear hv hu
    have hc := put_any kv bv nv sv lv fv b (.mk ku bu nu su lu fu) _ _ _ _ _ Vv_2.out Vu_2.out (by omega) (by omega)
    rw [← HZq.out, if_neg HK.out] at hc
    have HC := Lib.hid hc
    clear hc
    go_wp2_with fail
    go_at_call 14
    refine HC.out.mono ?_
    rintro e' wA2 ⟨cc, rfl, hvn, _, hb⟩
    obtain ⟨plq, clq, pfq, cfq, rfl, _⟩ := hasVal_mk.1 hvn
    have hbA := hb
    clear cv0 cv1 cv2 cv3 cv4 cv5 cu0 cu1 cu2 cu3 cu4 cu5 hlv hlu
    go_upto_region 5 with (fail)
    generalize hWB : World.alloc _ _ = W3
    have hdn : IsBlk W3 wA2.heap.size #[.int .u8 (kq : Int), .bool bq, .int .i64 nq, .string (bs sq), .slice plq lq.length clq, .slice pfq fq.length cfq] 26 := by rw [← hWB]; exact IsBlk.new _ _ _
    have hbn : Below wA2.heap.size wA2 W3 := by rw [← hWB]; exact (Below.refl _ _).alloc (Nat.le_refl _) _
    have hsn_3 : W3.heap.size ≤ wA2.heap.size + 1 ∧ wA2.heap.size + 1 ≤ W3.heap.size := by rw [← hWB]; simp
    have hsa_3 : W2.heap.size ≤ wA2.heap.size := hbA.size
    have hbW := below_ext hbA hbn
    have Bq_3 := Lib.hid hdn
    have hvl : HasVal (fun z => W2.heap.size ≤ z ∧ z < wA2.heap.size) W3 _ _ := (relV.lt hvn).ext_to (fun z hz => ⟨Nat.le_trans (by first | exact Nat.le_refl _ | (simp; done) | (simp; omega)) hz.1, hz.2⟩) (fun z hz _ => hbn.block z hz.2)
    have Vq_3 := Lib.hid hvl
    have Bv_3 := Lib.hid (Bv_2.out.ext hbW)
    have Bx_3 := Lib.hid (Bx_2.out.ext hbW)
    have Bu_3 := Lib.hid (Bu_2.out.ext hbW)
    have Bp_3 := Lib.hid (Bp_2.out.ext hbW)
    have Vv_3 := Lib.hid (Vv_2.out.ext hbW)
    have Vx_3 := Lib.hid (Vx_2.out.ext hbW)
    have Vu_3 := Lib.hid (Vu_2.out.ext hbW)
    have Vp_3 := Lib.hid (Vp_2.out.ext hbW)
    have BB_3 := Lib.hid (BB_2.out.trans (hbW.mono BB_2.out.size))
    have hsz_3 := BB_3.out.size
    clear Bv_2 Bx_2 Bu_2 Bp_2 Vv_2 Vx_2 Vu_2 Vp_2
    clear hWB hdn hbn hbW hbA hb hvn hvl HC
    go_wp2
    go_ret
    exact ⟨rfl, BB_3.out⟩
  have HK := Lib.hid hk
  obtain ⟨fp, hfp⟩ : ∃ f, f = putF a (.mk kx bx nx sx lx fx) fv := ⟨_, rfl⟩
  obtain ⟨fq, hfq⟩ : ∃ f, f = putF b (.mk ku bu nu su lu fu) fv := ⟨_, rfl⟩
  obtain ⟨fr, hfr⟩ : ∃ f, f = putF b (.mk ku bu nu su lu fu) fp := ⟨_, rfl⟩
  obtain ⟨fs, hfs⟩ : ∃ f, f = putF a (.mk kx bx nx sx lx fx) fq := ⟨_, rfl⟩
  have hfpl : fp.length ≤ 1048577 := by rw [hfp]; exact Nat.le_trans (putF_length _ _ _) (by omega)
  have hfql : fq.length ≤ 1048577 := by rw [hfq]; exact Nat.le_trans (putF_length _ _ _) (by omega)
  have hcom : ¬ a = b → checkV 0 (.mk kv bv nv sv lv fv) = 0 → fr = fs := fun hab h => by rw [hfr, hfs, hfp, hfq]; subst hk; exact put_comm hab _ _ h
  have hgot : a = b → fstF b fr = some (.mk ku bu nu su lu fu) := fun _ => by rw [hfr]; exact fst_put _ _ _
  have HP1 : Hid (putV a (.mk kx bx nx sx lx fx) (.mk kv bv nv sv lv fv) = .mk kv bv nv sv lv fp) := Lib.hid (by rw [putV, if_pos hk, hfp])
  have HP2 : Hid (putV b (.mk ku bu nu su lu fu) (.mk kv bv nv sv lv fv) = .mk kv bv nv sv lv fq) := Lib.hid (by rw [putV, if_pos hk, hfq])
  have HP3 : Hid (putV b (.mk ku bu nu su lu fu) (.mk kv bv nv sv lv fp) = .mk kv bv nv sv lv fr) := Lib.hid (by rw [putV, if_pos hk, hfr])
  have HP4 : Hid (putV a (.mk kx bx nx sx lx fx) (.mk kv bv nv sv lv fq) = .mk kv bv nv sv lv fs) := Lib.hid (by rw [putV, if_pos hk, hfs])
  have HCOM := Lib.hid hcom
  have HGOT := Lib.hid hgot
  clear hk hfp hfq hfr hfs hcom hgot
  show Calls Tryd.prog 8 #[.agg #[.int .u8 (kv : Int), .bool bv, .int .i64 nv, .string (bs sv), .slice plv lv.length clv, .slice pfv fv.length cfv], .string (bs a), .string (bs b), .agg #[.int .u8 (kx : Int), .bool bx, .int .i64 nx, .string (bs sx), .slice plx lx.length clx, .slice pfx fx.length cfx], .agg #[.int .u8 (ku : Int), .bool bu, .int .i64 nu, .string (bs su), .slice plu lu.length clu, .slice pfu fu.length cfu]] w _
  go_enter Tryd.func8, Tryd.ntmps8
  go_upto_region 1 with (fail)
  generalize hW0 : World.alloc (World.alloc (World.alloc w _) _) _ = W0
  have hdv : IsBlk W0 (w.heap.size) #[.int .u8 (kv : Int), .bool bv, .int .i64 nv, .string (bs sv), .slice plv lv.length clv, .slice pfv fv.length cfv] 26 := by rw [← hW0]; exact (((IsBlk.new _ _ _).alloc _).alloc _)
  have hdx : IsBlk W0 (w.heap.size + 1) #[.int .u8 (kx : Int), .bool bx, .int .i64 nx, .string (bs sx), .slice plx lx.length clx, .slice pfx fx.length cfx] 26 := by rw [← hW0]; exact ((IsBlk.new_at (by simp)).alloc _)
  have hdu : IsBlk W0 (w.heap.size + 1 + 1) #[.int .u8 (ku : Int), .bool bu, .int .i64 nu, .string (bs su), .slice plu lu.length clu, .slice pfu fu.length cfu] 26 := by rw [← hW0]; exact (IsBlk.new_at (by simp))
  have hb0 : Below w.heap.size w W0 := by rw [← hW0]; exact (((Below.refl _ _).alloc (Nat.le_refl _) _).alloc (by simp) _).alloc (by simp; omega) _
  have Bv_0 := Lib.hid hdv
  have Bx_0 := Lib.hid hdx
  have Bu_0 := Lib.hid hdu
  have BB_0 := Lib.hid hb0
  have hsz_0 := hb0.size
  have hsw_0 : W0.heap.size ≤ w.heap.size + 3 ∧ w.heap.size + 3 ≤ W0.heap.size := by rw [← hW0]; simp
  have Vv_0 := Lib.hid (Hv.out.ext hb0)
  have Vx_0 := Lib.hid (Hx.out.ext hb0)
  have Vu_0 := Lib.hid (Hu.out.ext hb0)
  clear hW0 hb0 hdv hdx hdu
  have hc := HLIV.out _ BB_0.out
  have HC := Lib.hid hc
  clear hc
  go_wp2_with fail
  go_at_call 11
  refine HC.out.mono ?_
  rintro e' W1 ⟨rfl, hb⟩
  have hbA := hb
  have hsa_1 : W0.heap.size ≤ W1.heap.size := hbA.size
  have Bv_1 := Lib.hid (Bv_0.out.ext hbA)
  have Bx_1 := Lib.hid (Bx_0.out.ext hbA)
  have Bu_1 := Lib.hid (Bu_0.out.ext hbA)
  have Vv_1 := Lib.hid (Vv_0.out.ext hbA)
  have Vx_1 := Lib.hid (Vx_0.out.ext hbA)
  have Vu_1 := Lib.hid (Vu_0.out.ext hbA)
  have BB_1 := Lib.hid (BB_0.out.trans (hbA.mono BB_0.out.size))
  have hsz_1 := BB_1.out.size
  clear Bv_0 Bx_0 Bu_0 Vv_0 Vx_0 Vu_0
  clear hb hbA HC
  have hv := Bv_1.out
  have cv0 := hv.cell (i := 0) rfl
  have cv1 := hv.cell (i := 1) rfl
  have cv2 := hv.cell (i := 2) rfl
  have cv3 := hv.cell (i := 3) rfl
  have cv4 := hv.cell (i := 4) rfl
  have cv5 := hv.cell (i := 5) rfl
  have hlv := hv.lt
  have hx := Bx_1.out
  have cx0 := hx.cell (i := 0) rfl
  have cx1 := hx.cell (i := 1) rfl
  have cx2 := hx.cell (i := 2) rfl
  have cx3 := hx.cell (i := 3) rfl
  have cx4 := hx.cell (i := 4) rfl
  have cx5 := hx.cell (i := 5) rfl
  have hlx := hx.lt
  clear hv hx
  have hc := put_any kv bv nv sv lv fv a (.mk kx bx nx sx lx fx) _ _ _ _ _ Vv_1.out Vx_1.out (by omega) (by omega)
  rw [HP1.out, if_pos HK.out] at hc
  have HC := Lib.hid hc
  clear hc
  go_wp2_with fail
  go_at_call 14
  refine HC.out.mono ?_
  rintro e' wA1 ⟨cc, rfl, hvn, _, hb⟩
  obtain ⟨plp, clp, pfp, cfp, rfl, _⟩ := hasVal_mk.1 hvn
  have hbA := hb
  clear cv0 cv1 cv2 cv3 cv4 cv5 cx0 cx1 cx2 cx3 cx4 cx5 hlv hlx
  go_upto_region 4 with (fail)
  generalize hWB : World.alloc _ _ = W2
  have hdn : IsBlk W2 wA1.heap.size #[.int .u8 (kv : Int), .bool bv, .int .i64 nv, .string (bs sv), .slice plp lv.length clp, .slice pfp fp.length cfp] 26 := by rw [← hWB]; exact IsBlk.new _ _ _
  have hbn : Below wA1.heap.size wA1 W2 := by rw [← hWB]; exact (Below.refl _ _).alloc (Nat.le_refl _) _
  have hsn_2 : W2.heap.size ≤ wA1.heap.size + 1 ∧ wA1.heap.size + 1 ≤ W2.heap.size := by rw [← hWB]; simp
  have hsa_2 : W1.heap.size ≤ wA1.heap.size := hbA.size
  have hbW := below_ext hbA hbn
  have Bp_2 := Lib.hid hdn
  have hvl : HasVal (fun z => W1.heap.size ≤ z ∧ z < wA1.heap.size) W2 _ _ := (relV.lt hvn).ext_to (fun z hz => ⟨Nat.le_trans (by first | exact Nat.le_refl _ | (simp; done) | (simp; omega)) hz.1, hz.2⟩) (fun z hz _ => hbn.block z hz.2)
  have Vp_2 := Lib.hid hvl
  have Bv_2 := Lib.hid (Bv_1.out.ext hbW)
  have Bx_2 := Lib.hid (Bx_1.out.ext hbW)
  have Bu_2 := Lib.hid (Bu_1.out.ext hbW)
  have Vv_2 := Lib.hid (Vv_1.out.ext hbW)
  have Vx_2 := Lib.hid (Vx_1.out.ext hbW)
  have Vu_2 := Lib.hid (Vu_1.out.ext hbW)
  have BB_2 := Lib.hid (BB_1.out.trans (hbW.mono BB_1.out.size))
  have hsz_2 := BB_2.out.size
  clear Bv_1 Bx_1 Bu_1 Vv_1 Vx_1 Vu_1
  clear hWB hdn hbn hbW hbA hb hvn hvl HC
  have hv := Bv_2.out
  have cv0 := hv.cell (i := 0) rfl
  have cv1 := hv.cell (i := 1) rfl
  have cv2 := hv.cell (i := 2) rfl
  have cv3 := hv.cell (i := 3) rfl
  have cv4 := hv.cell (i := 4) rfl
  have cv5 := hv.cell (i := 5) rfl
  have hlv := hv.lt
  have hu := Bu_2.out
  have cu0 := hu.cell (i := 0) rfl
  have cu1 := hu.cell (i := 1) rfl
  have cu2 := hu.cell (i := 2) rfl
  have cu3 := hu.cell (i := 3) rfl
  have cu4 := hu.cell (i := 4) rfl
  have cu5 := hu.cell (i := 5) rfl
  have hlu := hu.lt
  clear hv hu
  have hc := put_any kv bv nv sv lv fv b (.mk ku bu nu su lu fu) _ _ _ _ _ Vv_2.out Vu_2.out (by omega) (by omega)
  rw [HP2.out, if_pos HK.out] at hc
  have HC := Lib.hid hc
  clear hc
  go_wp2_with fail
  go_at_call 14
  refine HC.out.mono ?_
  rintro e' wA2 ⟨cc, rfl, hvn, _, hb⟩
  obtain ⟨plq, clq, pfq, cfq, rfl, _⟩ := hasVal_mk.1 hvn
  have hbA := hb
  clear cv0 cv1 cv2 cv3 cv4 cv5 cu0 cu1 cu2 cu3 cu4 cu5 hlv hlu
  go_upto_region 7 with (fail)
  generalize hWB : World.alloc _ _ = W3
  have hdn : IsBlk W3 wA2.heap.size #[.int .u8 (kv : Int), .bool bv, .int .i64 nv, .string (bs sv), .slice plq lv.length clq, .slice pfq fq.length cfq] 26 := by rw [← hWB]; exact IsBlk.new _ _ _
  have hbn : Below wA2.heap.size wA2 W3 := by rw [← hWB]; exact (Below.refl _ _).alloc (Nat.le_refl _) _
  have hsn_3 : W3.heap.size ≤ wA2.heap.size + 1 ∧ wA2.heap.size + 1 ≤ W3.heap.size := by rw [← hWB]; simp
  have hsa_3 : W2.heap.size ≤ wA2.heap.size := hbA.size
  have hbW := below_ext hbA hbn
  have Bq_3 := Lib.hid hdn
  have hvl : HasVal (fun z => W2.heap.size ≤ z ∧ z < wA2.heap.size) W3 _ _ := (relV.lt hvn).ext_to (fun z hz => ⟨Nat.le_trans (by first | exact Nat.le_refl _ | (simp; done) | (simp; omega)) hz.1, hz.2⟩) (fun z hz _ => hbn.block z hz.2)
  have Vq_3 := Lib.hid hvl
  have Bv_3 := Lib.hid (Bv_2.out.ext hbW)
  have Bx_3 := Lib.hid (Bx_2.out.ext hbW)
  have Bu_3 := Lib.hid (Bu_2.out.ext hbW)
  have Bp_3 := Lib.hid (Bp_2.out.ext hbW)
  have Vv_3 := Lib.hid (Vv_2.out.ext hbW)
  have Vx_3 := Lib.hid (Vx_2.out.ext hbW)
  have Vu_3 := Lib.hid (Vu_2.out.ext hbW)
  have Vp_3 := Lib.hid (Vp_2.out.ext hbW)
  have BB_3 := Lib.hid (BB_2.out.trans (hbW.mono BB_2.out.size))
  have hsz_3 := BB_3.out.size
  clear Bv_2 Bx_2 Bu_2 Bp_2 Vv_2 Vx_2 Vu_2 Vp_2
  clear hWB hdn hbn hbW hbA hb hvn hvl HC
  have hp := Bp_3.out
  have cp0 := hp.cell (i := 0) rfl
  have cp1 := hp.cell (i := 1) rfl
  have cp2 := hp.cell (i := 2) rfl
  have cp3 := hp.cell (i := 3) rfl
  have cp4 := hp.cell (i := 4) rfl
  have cp5 := hp.cell (i := 5) rfl
  have hlp := hp.lt
  have hu := Bu_3.out
  have cu0 := hu.cell (i := 0) rfl
  have cu1 := hu.cell (i := 1) rfl
  have cu2 := hu.cell (i := 2) rfl
  have cu3 := hu.cell (i := 3) rfl
  have cu4 := hu.cell (i := 4) rfl
  have cu5 := hu.cell (i := 5) rfl
  have hlu := hu.lt
  clear hp hu
  have hc := put_any kv bv nv sv lv fp b (.mk ku bu nu su lu fu) _ _ _ _ _ Vp_3.out Vu_3.out (by omega) hfpl
  rw [HP3.out, if_pos HK.out] at hc
  have HC := Lib.hid hc
  clear hc
  go_wp2_with fail
  go_at_call 14
  refine HC.out.mono ?_
  rintro e' wA3 ⟨cc, rfl, hvn, _, hb⟩
  obtain ⟨plr, clr, pfr, cfr, rfl, _⟩ := hasVal_mk.1 hvn
  have hbA := hb
  clear cp0 cp1 cp2 cp3 cp4 cp5 cu0 cu1 cu2 cu3 cu4 cu5 hlp hlu
  have hob := Bp_3.out.ext hbA
  have d0 := hob.cell (i := 0) rfl
  have d1 := hob.cell (i := 1) rfl
  have d2 := hob.cell (i := 2) rfl
  have d3 := hob.cell (i := 3) rfl
  have d4 := hob.cell (i := 4) rfl
  have d5 := hob.cell (i := 5) rfl
  have z0 := hob.frozen 0
  have z1 := hob.frozen 1
  have z2 := hob.frozen 2
  have z3 := hob.frozen 3
  have z4 := hob.frozen 4
  have z5 := hob.frozen 5
  have hlo := hob.lt
  have HOB := Lib.hid hob
  clear hob
  go_upto_region 8 with (fail)
  obtain ⟨W4, hWB⟩ : ∃ W, W = wA3.setCells (wA1.heap.size) 0 [.int .u8 (kv : Int), .bool bv, .int .i64 nv, .string (bs sv), .slice plr lv.length clr, .slice pfr fr.length cfr] := ⟨_, rfl⟩
  generalize hWC : World.setCell _ _ _ = WC
  have e9 : WC = W4 := by rw [hWB, ← hWC]; rfl
  subst e9
  clear hWC d0 d1 d2 d3 d4 d5 z0 z1 z2 z3 z4 z5 hlo
  have hsn_4 : WC.heap.size ≤ wA3.heap.size ∧ wA3.heap.size ≤ WC.heap.size := by rw [hWB, size_setCells]; exact ⟨Nat.le_refl _, Nat.le_refl _⟩
  have hsa_4 : W3.heap.size ≤ wA3.heap.size := hbA.size
  have hnb : IsBlk WC (wA1.heap.size) #[.int .u8 (kv : Int), .bool bv, .int .i64 nv, .string (bs sv), .slice plr lv.length clr, .slice pfr fr.length cfr] 26 := by rw [hWB]; exact blk_setCells [.int .u8 (kv : Int), .bool bv, .int .i64 nv, .string (bs sv), .slice plr lv.length clr, .slice pfr fr.length cfr] 0 wA3 _ HOB.out
  have hot : ∀ z, z ≠ wA1.heap.size → WC.heap[z]? = wA3.heap[z]? := fun z hz => by rw [hWB]; exact other_setCells hz _ _ _
  have Bv_4 := Lib.hid (show IsBlk WC _ _ _ from (hot _ (by omega)).trans (Bv_3.out.ext hbA))
  have Bx_4 := Lib.hid (show IsBlk WC _ _ _ from (hot _ (by omega)).trans (Bx_3.out.ext hbA))
  have Bu_4 := Lib.hid (show IsBlk WC _ _ _ from (hot _ (by omega)).trans (Bu_3.out.ext hbA))
  have Bq_4 := Lib.hid (show IsBlk WC _ _ _ from (hot _ (by omega)).trans (Bq_3.out.ext hbA))
  have Bp_4 := Lib.hid hnb
  have Vv_4 := Lib.hid ((Vv_3.out.ext hbA).ext_to (w' := WC) (fun _ h => h) (fun z hz _ => hot z (by have h9 : _ ∧ _ := hz; have h9b := h9.2; have h9a := h9.1; omega)))
  have Vx_4 := Lib.hid ((Vx_3.out.ext hbA).ext_to (w' := WC) (fun _ h => h) (fun z hz _ => hot z (by have h9 : _ ∧ _ := hz; have h9b := h9.2; have h9a := h9.1; omega)))
  have Vu_4 := Lib.hid ((Vu_3.out.ext hbA).ext_to (w' := WC) (fun _ h => h) (fun z hz _ => hot z (by have h9 : _ ∧ _ := hz; have h9b := h9.2; have h9a := h9.1; omega)))
  have Vq_4 := Lib.hid ((Vq_3.out.ext hbA).ext_to (w' := WC) (fun _ h => h) (fun z hz _ => hot z (by have h9 : _ ∧ _ := hz; have h9b := h9.2; have h9a := h9.1; omega)))
  have hvl : HasVal (fun z => W3.heap.size ≤ z ∧ z < wA3.heap.size) WC _ _ := (relV.lt hvn).ext_to (fun z hz => hz) (fun z hz _ => hot z (by have h9 := hz.1; omega))
  have Vr_4 := Lib.hid hvl
  have BB_4 : Hid (Below w.heap.size w WC) := Lib.hid (by rw [hWB]; exact below_setCells (by omega) _ _ _ (BB_3.out.trans (hbA.mono BB_3.out.size)))
  have hsz_4 := BB_4.out.size
  clear Bv_3 Bx_3 Bu_3 Bp_3 Bq_3 Vv_3 Vx_3 Vu_3 Vp_3 Vq_3 hWB hnb hot hvl hbA hb hvn HC HOB
  obtain ⟨W4, hWn⟩ : ∃ W, W = WC := ⟨_, rfl⟩
  subst hWn
  have hq := Bq_4.out
  have cq0 := hq.cell (i := 0) rfl
  have cq1 := hq.cell (i := 1) rfl
  have cq2 := hq.cell (i := 2) rfl
  have cq3 := hq.cell (i := 3) rfl
  have cq4 := hq.cell (i := 4) rfl
  have cq5 := hq.cell (i := 5) rfl
  have hlq := hq.lt
  have hx := Bx_4.out
  have cx0 := hx.cell (i := 0) rfl
  have cx1 := hx.cell (i := 1) rfl
  have cx2 := hx.cell (i := 2) rfl
  have cx3 := hx.cell (i := 3) rfl
  have cx4 := hx.cell (i := 4) rfl
  have cx5 := hx.cell (i := 5) rfl
  have hlx := hx.lt
  clear hq hx
  have hc := put_any kv bv nv sv lv fq a (.mk kx bx nx sx lx fx) _ _ _ _ _ Vq_4.out Vx_4.out (by omega) hfql
  rw [HP4.out, if_pos HK.out] at hc
  have HC := Lib.hid hc
  clear hc
  go_wp2_with fail
  go_at_call 14
  refine HC.out.mono ?_
  rintro e' wA4 ⟨cc, rfl, hvn, _, hb⟩
  obtain ⟨pls, cls, pfs, cfs, rfl, _⟩ := hasVal_mk.1 hvn
  have hbA := hb
  clear cq0 cq1 cq2 cq3 cq4 cq5 cx0 cx1 cx2 cx3 cx4 cx5 hlq hlx
  have hob := Bq_4.out.ext hbA
  have d0 := hob.cell (i := 0) rfl
  have d1 := hob.cell (i := 1) rfl
  have d2 := hob.cell (i := 2) rfl
  have d3 := hob.cell (i := 3) rfl
  have d4 := hob.cell (i := 4) rfl
  have d5 := hob.cell (i := 5) rfl
  have z0 := hob.frozen 0
  have z1 := hob.frozen 1
  have z2 := hob.frozen 2
  have z3 := hob.frozen 3
  have z4 := hob.frozen 4
  have z5 := hob.frozen 5
  have hlo := hob.lt
  have HOB := Lib.hid hob
  clear hob
  go_upto_region 9 with (fail)
  obtain ⟨W5, hWB⟩ : ∃ W, W = wA4.setCells (wA2.heap.size) 0 [.int .u8 (kv : Int), .bool bv, .int .i64 nv, .string (bs sv), .slice pls lv.length cls, .slice pfs fs.length cfs] := ⟨_, rfl⟩
  generalize hWC : World.setCell _ _ _ = WC
  have e9 : WC = W5 := by rw [hWB, ← hWC]; rfl
  subst e9
  clear hWC d0 d1 d2 d3 d4 d5 z0 z1 z2 z3 z4 z5 hlo
  have hsn_5 : WC.heap.size ≤ wA4.heap.size ∧ wA4.heap.size ≤ WC.heap.size := by rw [hWB, size_setCells]; exact ⟨Nat.le_refl _, Nat.le_refl _⟩
  have hsa_5 : W4.heap.size ≤ wA4.heap.size := hbA.size
  have hnb : IsBlk WC (wA2.heap.size) #[.int .u8 (kv : Int), .bool bv, .int .i64 nv, .string (bs sv), .slice pls lv.length cls, .slice pfs fs.length cfs] 26 := by rw [hWB]; exact blk_setCells [.int .u8 (kv : Int), .bool bv, .int .i64 nv, .string (bs sv), .slice pls lv.length cls, .slice pfs fs.length cfs] 0 wA4 _ HOB.out
  have hot : ∀ z, z ≠ wA2.heap.size → WC.heap[z]? = wA4.heap[z]? := fun z hz => by rw [hWB]; exact other_setCells hz _ _ _
  have Bv_5 := Lib.hid (show IsBlk WC _ _ _ from (hot _ (by omega)).trans (Bv_4.out.ext hbA))
  have Bx_5 := Lib.hid (show IsBlk WC _ _ _ from (hot _ (by omega)).trans (Bx_4.out.ext hbA))
  have Bu_5 := Lib.hid (show IsBlk WC _ _ _ from (hot _ (by omega)).trans (Bu_4.out.ext hbA))
  have Bp_5 := Lib.hid (show IsBlk WC _ _ _ from (hot _ (by omega)).trans (Bp_4.out.ext hbA))
  have Bq_5 := Lib.hid hnb
  have Vv_5 := Lib.hid ((Vv_4.out.ext hbA).ext_to (w' := WC) (fun _ h => h) (fun z hz _ => hot z (by have h9 : _ ∧ _ := hz; have h9b := h9.2; have h9a := h9.1; omega)))
  have Vx_5 := Lib.hid ((Vx_4.out.ext hbA).ext_to (w' := WC) (fun _ h => h) (fun z hz _ => hot z (by have h9 : _ ∧ _ := hz; have h9b := h9.2; have h9a := h9.1; omega)))
  have Vu_5 := Lib.hid ((Vu_4.out.ext hbA).ext_to (w' := WC) (fun _ h => h) (fun z hz _ => hot z (by have h9 : _ ∧ _ := hz; have h9b := h9.2; have h9a := h9.1; omega)))
  have Vr_5 := Lib.hid ((Vr_4.out.ext hbA).ext_to (w' := WC) (fun _ h => h) (fun z hz _ => hot z (by have h9 : _ ∧ _ := hz; have h9b := h9.2; have h9a := h9.1; omega)))
  have hvl : HasVal (fun z => W4.heap.size ≤ z ∧ z < wA4.heap.size) WC _ _ := (relV.lt hvn).ext_to (fun z hz => hz) (fun z hz _ => hot z (by have h9 := hz.1; omega))
  have Vs_5 := Lib.hid hvl
  have BB_5 : Hid (Below w.heap.size w WC) := Lib.hid (by rw [hWB]; exact below_setCells (by omega) _ _ _ (BB_4.out.trans (hbA.mono BB_4.out.size)))
  have hsz_5 := BB_5.out.size
  clear Bv_4 Bx_4 Bu_4 Bp_4 Bq_4 Vv_4 Vx_4 Vu_4 Vq_4 Vr_4 hWB hnb hot hvl hbA hb hvn HC HOB
  obtain ⟨W5, hWn⟩ : ∃ W, W = WC := ⟨_, rfl⟩
  subst hWn
  by_cases hab : a = b
  · have hab2 : ((bs a).toList == (bs b).toList) = true := by rw [tl_bs, tl_bs, hab]; exact beq_self_eq_true _
    have HG1 := Lib.hid (HGOT.out hab)
    clear hab
    have hbx : Below W5.heap.size W5 (W5.alloc (.cells #[.string (bs b)] 9)) := (Below.refl _ _).alloc (Nat.le_refl _) _
    have hp := Bp_5.out
    have cp0 := hp.cell (i := 0) rfl
    have cp1 := hp.cell (i := 1) rfl
    have cp2 := hp.cell (i := 2) rfl
    have cp3 := hp.cell (i := 3) rfl
    have cp4 := hp.cell (i := 4) rfl
    have cp5 := hp.cell (i := 5) rfl
    have hlp := hp.lt
    clear hp
    have hc := get_any (.mk kv bv nv sv lv fr) [b] _ (fun _ => True) _ (some ⟨W5.heap.size, 0, none⟩) 1 (W5.alloc (.cells #[.string (bs b)] 9)) (Vr_5.out.ext hbx) (hasS1 (IsBlk.new _ _ _)) (by simp) (fun x hx => by rw [List.mem_singleton.1 hx]; omega) ((HNT.out.ext BB_5.out).ext hbx)
    unfold GetPost at hc
    rw [get_name _ _ _ _ _ _ _ HK.out, HG1.out] at hc
    simp only [Option.isSome_some, Option.getD_some] at hc
    have HC := Lib.hid hc
    clear hc
    go_wp2_with fail
    go_at_call 16
    refine HC.out.mono ?_
    rintro e' wA5 ⟨co, rfl, hvn, hb⟩
    obtain ⟨plo, clo, pfo, cfo, rfl, _⟩ := hasVal_mk.1 hvn
    have hbA := below_ext hbx hb
    clear cp0 cp1 cp2 cp3 cp4 cp5 hlp
    go_upto_region 11 with (fail)
    generalize hWB : World.alloc _ _ = W6
    have hdn : IsBlk W6 wA5.heap.size #[.int .u8 (ku : Int), .bool bu, .int .i64 nu, .string (bs su), .slice plo lu.length clo, .slice pfo fu.length cfo] 26 := by rw [← hWB]; exact IsBlk.new _ _ _
    have hbn : Below wA5.heap.size wA5 W6 := by rw [← hWB]; exact (Below.refl _ _).alloc (Nat.le_refl _) _
    have hsn_6 : W6.heap.size ≤ wA5.heap.size + 1 ∧ wA5.heap.size + 1 ≤ W6.heap.size := by rw [← hWB]; simp
    have hsa_6 : W5.heap.size ≤ wA5.heap.size := hbA.size
    have hbW := below_ext hbA hbn
    have Bo_6 := Lib.hid hdn
    have hvl : HasVal (fun z => W5.heap.size ≤ z ∧ z < wA5.heap.size) W6 _ _ := (relV.lt hvn).ext_to (fun z hz => ⟨Nat.le_trans (by first | exact Nat.le_refl _ | (simp; done) | (simp; omega)) hz.1, hz.2⟩) (fun z hz _ => hbn.block z hz.2)
    have Vo_6 := Lib.hid hvl
    have Bv_6 := Lib.hid (Bv_5.out.ext hbW)
    have Bx_6 := Lib.hid (Bx_5.out.ext hbW)
    have Bu_6 := Lib.hid (Bu_5.out.ext hbW)
    have Bp_6 := Lib.hid (Bp_5.out.ext hbW)
    have Bq_6 := Lib.hid (Bq_5.out.ext hbW)
    have Vv_6 := Lib.hid (Vv_5.out.ext hbW)
    have Vx_6 := Lib.hid (Vx_5.out.ext hbW)
    have Vu_6 := Lib.hid (Vu_5.out.ext hbW)
    have Vr_6 := Lib.hid (Vr_5.out.ext hbW)
    have Vs_6 := Lib.hid (Vs_5.out.ext hbW)
    have BB_6 := Lib.hid (BB_5.out.trans (hbW.mono BB_5.out.size))
    have hsz_6 := BB_6.out.size
    clear Bv_5 Bx_5 Bu_5 Bp_5 Bq_5 Vv_5 Vx_5 Vu_5 Vr_5 Vs_5
    clear hWB hdn hbn hbW hbA hb hvn hvl HC hbx
    have ho := Bo_6.out
    have co0 := ho.cell (i := 0) rfl
    have co1 := ho.cell (i := 1) rfl
    have co2 := ho.cell (i := 2) rfl
    have co3 := ho.cell (i := 3) rfl
    have co4 := ho.cell (i := 4) rfl
    have co5 := ho.cell (i := 5) rfl
    have hlo := ho.lt
    have hu := Bu_6.out
    have cu0 := hu.cell (i := 0) rfl
    have cu1 := hu.cell (i := 1) rfl
    have cu2 := hu.cell (i := 2) rfl
    have cu3 := hu.cell (i := 3) rfl
    have cu4 := hu.cell (i := 4) rfl
    have cu5 := hu.cell (i := 5) rfl
    have hlu := hu.lt
    clear ho hu
    have hc := sam_any (.mk ku bu nu su lu fu) (.mk ku bu nu su lu fu) _ _ _ _ _ Vo_6.out Vu_6.out
    rw [same_refl] at hc
    have HC := Lib.hid hc
    clear hc
    go_wp2_with fail
    go_at_call 22
    refine HC.out.mono ?_
    rintro e' W7 ⟨rfl, hb⟩
    clear co0 co1 co2 co3 co4 co5 cu0 cu1 cu2 cu3 cu4 cu5 hlo hlu
    have hbA := hb
    have hsa_7 : W6.heap.size ≤ W7.heap.size := hbA.size
    have Bv_7 := Lib.hid (Bv_6.out.ext hbA)
    have Bx_7 := Lib.hid (Bx_6.out.ext hbA)
    have Bu_7 := Lib.hid (Bu_6.out.ext hbA)
    have Bp_7 := Lib.hid (Bp_6.out.ext hbA)
    have Bq_7 := Lib.hid (Bq_6.out.ext hbA)
    have Bo_7 := Lib.hid (Bo_6.out.ext hbA)
    have Vv_7 := Lib.hid (Vv_6.out.ext hbA)
    have Vx_7 := Lib.hid (Vx_6.out.ext hbA)
    have Vu_7 := Lib.hid (Vu_6.out.ext hbA)
    have Vr_7 := Lib.hid (Vr_6.out.ext hbA)
    have Vs_7 := Lib.hid (Vs_6.out.ext hbA)
    have Vo_7 := Lib.hid (Vo_6.out.ext hbA)
    have BB_7 := Lib.hid (BB_6.out.trans (hbA.mono BB_6.out.size))
    have hsz_7 := BB_7.out.size
    clear Bv_6 Bx_6 Bu_6 Bp_6 Bq_6 Bo_6 Vv_6 Vx_6 Vu_6 Vr_6 Vs_6 Vo_6
    clear hb hbA HC
    go_wp2
    go_ret
    exact ⟨rfl, BB_7.out⟩
  · have hab2 : ((bs a).toList == (bs b).toList) = false := by rw [tl_bs, tl_bs]; simpa using hab
    have HG1 := Lib.hid (HCOM.out hab)
    clear hab
    obtain ⟨dv, hdv⟩ : ∃ d, d = checkV 0 (.mk kv bv nv sv lv fv) := ⟨_, rfl⟩
    rw [← hdv] at HG1
    have HDV := Lib.hid hdv
    clear hdv
    have hv := Bv_5.out
    have cv0 := hv.cell (i := 0) rfl
    have cv1 := hv.cell (i := 1) rfl
    have cv2 := hv.cell (i := 2) rfl
    have cv3 := hv.cell (i := 3) rfl
    have cv4 := hv.cell (i := 4) rfl
    have cv5 := hv.cell (i := 5) rfl
    have hlv := hv.lt
    clear hv
    have hc := check_any (.mk kv bv nv sv lv fv) _ _ _ Vv_5.out (U8T_ext HUT.out BB_5.out)
    rw [← HDV.out] at hc
    have HC := Lib.hid hc
    clear hc
    go_wp2_with fail
    go_at_call 18
    refine HC.out.mono ?_
    rintro e' W6 ⟨rfl, hb⟩
    clear cv0 cv1 cv2 cv3 cv4 cv5 hlv
    have hbA := hb
    have hsa_6 : W5.heap.size ≤ W6.heap.size := hbA.size
    have Bv_6 := Lib.hid (Bv_5.out.ext hbA)
    have Bx_6 := Lib.hid (Bx_5.out.ext hbA)
    have Bu_6 := Lib.hid (Bu_5.out.ext hbA)
    have Bp_6 := Lib.hid (Bp_5.out.ext hbA)
    have Bq_6 := Lib.hid (Bq_5.out.ext hbA)
    have Vv_6 := Lib.hid (Vv_5.out.ext hbA)
    have Vx_6 := Lib.hid (Vx_5.out.ext hbA)
    have Vu_6 := Lib.hid (Vu_5.out.ext hbA)
    have Vr_6 := Lib.hid (Vr_5.out.ext hbA)
    have Vs_6 := Lib.hid (Vs_5.out.ext hbA)
    have BB_6 := Lib.hid (BB_5.out.trans (hbA.mono BB_5.out.size))
    have hsz_6 := BB_6.out.size
    clear Bv_5 Bx_5 Bu_5 Bp_5 Bq_5 Vv_5 Vx_5 Vu_5 Vr_5 Vs_5
    clear hb hbA HC
    by_cases hd : dv = 0
    · subst hd
      have hrs := HG1.out rfl
      have HRS := Lib.hid hrs
      clear hrs
      have hp := Bp_6.out
      have cp0 := hp.cell (i := 0) rfl
      have cp1 := hp.cell (i := 1) rfl
      have cp2 := hp.cell (i := 2) rfl
      have cp3 := hp.cell (i := 3) rfl
      have cp4 := hp.cell (i := 4) rfl
      have cp5 := hp.cell (i := 5) rfl
      have hlp := hp.lt
      have hq := Bq_6.out
      have cq0 := hq.cell (i := 0) rfl
      have cq1 := hq.cell (i := 1) rfl
      have cq2 := hq.cell (i := 2) rfl
      have cq3 := hq.cell (i := 3) rfl
      have cq4 := hq.cell (i := 4) rfl
      have cq5 := hq.cell (i := 5) rfl
      have hlq := hq.lt
      clear hp hq
      have hc := sam_any (.mk kv bv nv sv lv fr) (.mk kv bv nv sv lv fs) _ _ _ _ _ Vr_6.out Vs_6.out
      rw [show sameV (.mk kv bv nv sv lv fr) (.mk kv bv nv sv lv fs) = true by rw [HRS.out]; exact same_refl _] at hc
      have HC := Lib.hid hc
      clear hc
      go_wp2_with fail
      go_at_call 22
      refine HC.out.mono ?_
      rintro e' W7 ⟨rfl, hb⟩
      clear cp0 cp1 cp2 cp3 cp4 cp5 cq0 cq1 cq2 cq3 cq4 cq5 hlp hlq
      have hbA := hb
      have hsa_7 : W6.heap.size ≤ W7.heap.size := hbA.size
      have Bv_7 := Lib.hid (Bv_6.out.ext hbA)
      have Bx_7 := Lib.hid (Bx_6.out.ext hbA)
      have Bu_7 := Lib.hid (Bu_6.out.ext hbA)
      have Bp_7 := Lib.hid (Bp_6.out.ext hbA)
      have Bq_7 := Lib.hid (Bq_6.out.ext hbA)
      have Vv_7 := Lib.hid (Vv_6.out.ext hbA)
      have Vx_7 := Lib.hid (Vx_6.out.ext hbA)
      have Vu_7 := Lib.hid (Vu_6.out.ext hbA)
      have Vr_7 := Lib.hid (Vr_6.out.ext hbA)
      have Vs_7 := Lib.hid (Vs_6.out.ext hbA)
      have BB_7 := Lib.hid (BB_6.out.trans (hbA.mono BB_6.out.size))
      have hsz_7 := BB_7.out.size
      clear Bv_6 Bx_6 Bu_6 Bp_6 Bq_6 Vv_6 Vx_6 Vu_6 Vr_6 Vs_6
      clear hb hbA HC
      go_wp2
      go_ret
      exact ⟨rfl, BB_7.out⟩
    · have hd2 : (dv != 0) = true := by simpa using hd
      clear hd
      go_wp2
      go_ret
      exact ⟨rfl, BB_6.out⟩
end Go.Proofs.YthcojmpigdojoaaDoor
