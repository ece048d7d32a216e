/- ValuePuts: what is put is got, what is dropped is not; all else stays; what is right stays right. Conditions: the values and names lie in memory; the bulk is at most 2^20; the tables and the two errors read as the texts lay them. -/
import Derived.Test.YthcojmpigdojoaaDoorVSorts
set_option linter.unusedVariables false
set_option linter.unusedSimpArgs false
namespace Go.Proofs.YthcojmpigdojoaaDoor
open Go Go.RowKit Go.BigFrame
set_option maxRecDepth 100000

theorem one_has {w : World} {g : Nat} {name : List UInt8} {x : DVal} {cx : List Value} {S : Nat → Prop} (hG : IsBlk w g (.string (bs name) :: cx).toArray 38) (hx : HasVal S w x cx) (hn : name.length ≤ 1073741824) : HasVal (fun _ => True) w (.mk 6 false 0 [] [] [(name, x)]) [.int .u8 6, .bool false, .int .i64 0, .string (bs []), .slice none 0 0, .slice (some ⟨g, 0, none⟩) 1 1] := by
  refine hasVal_mk.2 ⟨none, 0, some ⟨g, 0, none⟩, 1, rfl, ⟨by omega, by omega, by omega, by simp, by simp, by simp, by simp, by unfold maxLen; omega, by simp, by unfold maxLen; omega⟩, fun i hi => by simp at hi, fun i hi => ?_⟩
  obtain rfl : i = 0 := by have : i < 1 := hi; omega
  refine ⟨g, 0, cx, rfl, ⟨hn, trivial, hG.lt, fun r hr => ?_⟩, hx.ext_to (fun _ _ => trivial) (fun _ _ _ => rfl)⟩
  rw [Nat.zero_add]
  have hv : (.string (bs name) :: cx : List Value)[r]? = some ((.string (bs name) :: cx : List Value)[r]) := List.getElem?_eq_getElem hr
  rw [show (Value.string (bs ([(name, x)][0]).1) :: cx)[r]? = (.string (bs name) :: cx : List Value)[r]? from rfl, hv]
  exact hG.cell (by simp)
set_option maxHeartbeats 16000000 in
theorem puts_any (V X : DVal) (name other : List UInt8) (S SX : Nat → Prop) (cv cx : List Value) (w : World) (hV : HasVal S w V cv) (hX : HasVal SX w X cx) (hna : name.length ≤ 1048576) (hnb : other.length ≤ 1048576) (hN : NumT w) (hU8 : U8T w) (hbv : bulkV V ≤ 1048576) :
    Calls Tryd.prog 10 #[.agg cv.toArray, .string (bs name), .string (bs other), .agg cx.toArray] w fun e' w' => e' = .returned (.bool true) ∧ Below w.heap.size w w' := by
  have HNT := Lib.hid hN
  have HUT := Lib.hid hU8
  have HLIV := Lib.hid (fun w' (hb : Below w.heap.size w w') => vlives_any w' (hN.ext hb) (U8T_ext hU8 hb))
  have Hv0 := Lib.hid hV
  have Hx0 := Lib.hid hX
  obtain ⟨kv, bv, nv, sv, lv, fv⟩ := V
  obtain ⟨kx, bx, nx, sx, lx, fx⟩ := X
  have hfl := len_bulk hbv
  obtain ⟨plv, clv, pfv, cfv, rfl, _⟩ := hasVal_mk.1 hV
  obtain ⟨plx, clx, pfx, cfx, rfl, _⟩ := hasVal_mk.1 hX
  have Hv := Lib.hid (relV.lt Hv0.out)
  have Hx := Lib.hid (relV.lt Hx0.out)
  clear hN hU8 hV Hv0 hX Hx0
  by_cases hk : kv = 6
  case neg =>
    have hkb : ((kv : Int) != 6) = true := by simp; omega
    obtain ⟨Zp, hZp⟩ : ∃ Z, Z = putV name (.mk kx bx nx sx lx fx) (.mk kv bv nv sv lv fv) := ⟨_, rfl⟩
    have HZp := Lib.hid hZp
    obtain ⟨kp, bp, np, sp, lp, fp⟩ := Zp
    have HK := Lib.hid hk
    clear hk hZp
    show Calls Tryd.prog 10 #[.agg #[.int .u8 (kv : Int), .bool bv, .int .i64 nv, .string (bs sv), .slice plv lv.length clv, .slice pfv fv.length cfv], .string (bs name), .string (bs other), .agg #[.int .u8 (kx : Int), .bool bx, .int .i64 nx, .string (bs sx), .slice plx lx.length clx, .slice pfx fx.length cfx]] w _
    go_enter Tryd.func10, Tryd.ntmps10
    go_upto_region 1 with (fail)
    generalize hW0 : World.alloc (World.alloc w _) _ = W0
    have hdv : IsBlk W0 (w.heap.size) #[.int .u8 (kv : Int), .bool bv, .int .i64 nv, .string (bs sv), .slice plv lv.length clv, .slice pfv fv.length cfv] 26 := by rw [← hW0]; exact ((IsBlk.new _ _ _).alloc _)
    have hdx : IsBlk W0 (w.heap.size + 1) #[.int .u8 (kx : Int), .bool bx, .int .i64 nx, .string (bs sx), .slice plx lx.length clx, .slice pfx fx.length cfx] 26 := by rw [← hW0]; exact (IsBlk.new_at (by simp))
    have hb0 : Below w.heap.size w W0 := by rw [← hW0]; exact ((Below.refl _ _).alloc (Nat.le_refl _) _).alloc (by simp) _
    have Bv_0 := Lib.hid hdv
    have Bx_0 := Lib.hid hdx
    have BB_0 := Lib.hid hb0
    have hsz_0 := hb0.size
    have hsw_0 : W0.heap.size ≤ w.heap.size + 2 ∧ w.heap.size + 2 ≤ W0.heap.size := by rw [← hW0]; simp
    have Vv_0 := Lib.hid (Hv.out.ext hb0)
    have Vx_0 := Lib.hid (Hx.out.ext hb0)
    clear hW0 hb0 hdv hdx
    have hc := HLIV.out _ BB_0.out
    have HC := Lib.hid hc
    clear hc
    go_wp2_with fail
    go_at_call 11
    refine HC.out.mono ?_
    rintro e' W1 ⟨rfl, hb⟩
    have hbA := hb
    have hsa_1 : W0.heap.size ≤ W1.heap.size := hbA.size
    have Bv_1 := Lib.hid (Bv_0.out.ext hbA)
    have Bx_1 := Lib.hid (Bx_0.out.ext hbA)
    have Vv_1 := Lib.hid (Vv_0.out.ext hbA)
    have Vx_1 := Lib.hid (Vx_0.out.ext hbA)
    have BB_1 := Lib.hid (BB_0.out.trans (hbA.mono BB_0.out.size))
    have hsz_1 := BB_1.out.size
    clear Bv_0 Bx_0 Vv_0 Vx_0
    clear hb hbA HC
    have hv := Bv_1.out
    have cv0 := hv.cell (i := 0) rfl
    have cv1 := hv.cell (i := 1) rfl
    have cv2 := hv.cell (i := 2) rfl
    have cv3 := hv.cell (i := 3) rfl
    have cv4 := hv.cell (i := 4) rfl
    have cv5 := hv.cell (i := 5) rfl
    have hlv := hv.lt
    have hx := Bx_1.out
    have cx0 := hx.cell (i := 0) rfl
    have cx1 := hx.cell (i := 1) rfl
    have cx2 := hx.cell (i := 2) rfl
    have cx3 := hx.cell (i := 3) rfl
    have cx4 := hx.cell (i := 4) rfl
    have cx5 := hx.cell (i := 5) rfl
    have hlx := hx.lt
    clear hv hx
    have hc := put_any kv bv nv sv lv fv name (.mk kx bx nx sx lx fx) _ _ _ _ _ Vv_1.out Vx_1.out (by omega) (by omega)
    rw [← HZp.out, if_neg HK.out] at hc
    have HC := Lib.hid hc
    clear hc
    go_wp2_with fail
    go_at_call 14
    refine HC.out.mono ?_
    rintro e' wA1 ⟨cc, rfl, hvn, _, hb⟩
    obtain ⟨plp, clp, pfp, cfp, rfl, _⟩ := hasVal_mk.1 hvn
    have hbA := hb
    clear cv0 cv1 cv2 cv3 cv4 cv5 cx0 cx1 cx2 cx3 cx4 cx5 hlv hlx
    go_upto_region 4 with (fail)
    generalize hWB : World.alloc _ _ = W2
    have hdn : IsBlk W2 wA1.heap.size #[.int .u8 (kp : Int), .bool bp, .int .i64 np, .string (bs sp), .slice plp lp.length clp, .slice pfp fp.length cfp] 26 := by rw [← hWB]; exact IsBlk.new _ _ _
    have hbn : Below wA1.heap.size wA1 W2 := by rw [← hWB]; exact (Below.refl _ _).alloc (Nat.le_refl _) _
    have hsn_2 : W2.heap.size ≤ wA1.heap.size + 1 ∧ wA1.heap.size + 1 ≤ W2.heap.size := by rw [← hWB]; simp
    have hsa_2 : W1.heap.size ≤ wA1.heap.size := hbA.size
    have hbW := below_ext hbA hbn
    have Bp_2 := Lib.hid hdn
    have hvl : HasVal (fun z => W1.heap.size ≤ z ∧ z < wA1.heap.size) W2 _ _ := (relV.lt hvn).ext_to (fun z hz => ⟨Nat.le_trans (by first | exact Nat.le_refl _ | (simp; done) | (simp; omega)) hz.1, hz.2⟩) (fun z hz _ => hbn.block z hz.2)
    have Vp_2 := Lib.hid hvl
    have Bv_2 := Lib.hid (Bv_1.out.ext hbW)
    have Bx_2 := Lib.hid (Bx_1.out.ext hbW)
    have Vv_2 := Lib.hid (Vv_1.out.ext hbW)
    have Vx_2 := Lib.hid (Vx_1.out.ext hbW)
    have BB_2 := Lib.hid (BB_1.out.trans (hbW.mono BB_1.out.size))
    have hsz_2 := BB_2.out.size
    clear Bv_1 Bx_1 Vv_1 Vx_1
    clear hWB hdn hbn hbW hbA hb hvn hvl HC
    have hv := Bv_2.out
    have cv0 := hv.cell (i := 0) rfl
    have cv1 := hv.cell (i := 1) rfl
    have cv2 := hv.cell (i := 2) rfl
    have cv3 := hv.cell (i := 3) rfl
    have cv4 := hv.cell (i := 4) rfl
    have cv5 := hv.cell (i := 5) rfl
    have hlv := hv.lt
    have hp := Bp_2.out
    have cp0 := hp.cell (i := 0) rfl
    have cp1 := hp.cell (i := 1) rfl
    have cp2 := hp.cell (i := 2) rfl
    have cp3 := hp.cell (i := 3) rfl
    have cp4 := hp.cell (i := 4) rfl
    have cp5 := hp.cell (i := 5) rfl
    have hlp := hp.lt
    clear hv hp
    have hc := ref_same_any (.mk kp bp np sp lp fp) .zero _ (fun _ => True) _ [.int .u8 0, .bool false, .int .i64 0, .string (bs []), .slice none 0 0, .slice none 0 0] _ Vp_2.out (zero_has' _ _)
    rw [show sameV (.mk kp bp np sp lp fp) .zero = true by rw [HZp.out, putV, if_neg HK.out]; exact same_refl _] at hc
    have HC := Lib.hid hc
    clear hc
    go_wp2_with fail
    go_at_call 17
    refine HC.out.mono ?_
    rintro e' W3 ⟨rfl, hb⟩
    clear cv0 cv1 cv2 cv3 cv4 cv5 cp0 cp1 cp2 cp3 cp4 cp5 hlv hlp
    have hbA := hb
    have hsa_3 : W2.heap.size ≤ W3.heap.size := hbA.size
    have Bv_3 := Lib.hid (Bv_2.out.ext hbA)
    have Bx_3 := Lib.hid (Bx_2.out.ext hbA)
    have Bp_3 := Lib.hid (Bp_2.out.ext hbA)
    have Vv_3 := Lib.hid (Vv_2.out.ext hbA)
    have Vx_3 := Lib.hid (Vx_2.out.ext hbA)
    have Vp_3 := Lib.hid (Vp_2.out.ext hbA)
    have BB_3 := Lib.hid (BB_2.out.trans (hbA.mono BB_2.out.size))
    have hsz_3 := BB_3.out.size
    clear Bv_2 Bx_2 Bp_2 Vv_2 Vx_2 Vp_2
    clear hb hbA HC
    go_wp2
    go_ret
    exact ⟨rfl, BB_3.out⟩
  have HK := Lib.hid hk
  obtain ⟨fa, hfa⟩ : ∃ f, f = putF name (.mk kx bx nx sx lx fx) fv := ⟨_, rfl⟩
  obtain ⟨fd, hfd⟩ : ∃ f, f = dropF name fv := ⟨_, rfl⟩
  have hfal : fa.length ≤ 1048577 := by rw [hfa]; exact Nat.le_trans (putF_length _ _ _) (by omega)
  have HP1 : Hid (putV name (.mk kx bx nx sx lx fx) (.mk kv bv nv sv lv fv) = .mk kv bv nv sv lv fa) := Lib.hid (by rw [putV, if_pos hk, hfa])
  have HP2 : Hid (dropV name (.mk kv bv nv sv lv fa) = .mk kv bv nv sv lv fd) := Lib.hid (by rw [dropV, if_pos hk, hfd, hfa, drop_put])
  have HG1 : Hid (fstF name fa = some (.mk kx bx nx sx lx fx)) := Lib.hid (by rw [hfa]; exact fst_put _ _ _)
  have HG2 : Hid (fstF name fd = none) := Lib.hid (by rw [hfd]; exact fst_drop _ _)
  have HG3 : Hid (¬ other = name → fstF other fa = fstF other fv ∧ fstF other fd = fstF other fv) := Lib.hid (fun h => ⟨by rw [hfa]; exact fst_put_other h _ _, by rw [hfd]; exact fst_drop_other h _⟩)
  obtain ⟨dv, hdv⟩ : ∃ d, d = checkV 0 (.mk kv bv nv sv lv fv) := ⟨_, rfl⟩
  obtain ⟨d1, hd1⟩ : ∃ d, d = checkV 0 (.mk 6 false 0 [] [] [(name, .mk kx bx nx sx lx fx)]) := ⟨_, rfl⟩
  have HDV := Lib.hid hdv
  have HD1 := Lib.hid hd1
  have HC1 : Hid (dv = 0 → checkV 0 (.mk kv bv nv sv lv fd) = 0) := Lib.hid (fun h => by rw [hdv] at h; rw [hfd]; subst hk; exact chk_drop name h)
  have HC2 : Hid (dv = 0 → d1 = 0 → fa.length ≤ 64 → checkV 0 (.mk kv bv nv sv lv fa) = 0) := Lib.hid (fun h h1 hl => by rw [hdv] at h; rw [hd1] at h1; rw [hfa] at hl ⊢; subst hk; exact chk_put h h1 hl)
  obtain ⟨Zz, hZz⟩ : ∃ Z, Z = DVal.zero := ⟨_, rfl⟩
  have HZz := Lib.hid hZz
  obtain ⟨q2, hq2⟩ : ∃ q, q = (fstF other fv).isSome := ⟨_, rfl⟩
  have HQ2 := Lib.hid hq2
  obtain ⟨Zw, hZw⟩ : ∃ Z, Z = (fstF other fv).getD .zero := ⟨_, rfl⟩
  have HZw := Lib.hid hZw
  obtain ⟨kz, bz, nz, sz, lz, fz⟩ := Zz
  obtain ⟨kw, bw, nw, sw, lw, fw⟩ := Zw
  clear hk hfa hfd hdv hd1 hZz hq2 hZw
  show Calls Tryd.prog 10 #[.agg #[.int .u8 (kv : Int), .bool bv, .int .i64 nv, .string (bs sv), .slice plv lv.length clv, .slice pfv fv.length cfv], .string (bs name), .string (bs other), .agg #[.int .u8 (kx : Int), .bool bx, .int .i64 nx, .string (bs sx), .slice plx lx.length clx, .slice pfx fx.length cfx]] w _
  go_enter Tryd.func10, Tryd.ntmps10
  go_upto_region 1 with (fail)
  generalize hW0 : World.alloc (World.alloc w _) _ = W0
  have hdv : IsBlk W0 (w.heap.size) #[.int .u8 (kv : Int), .bool bv, .int .i64 nv, .string (bs sv), .slice plv lv.length clv, .slice pfv fv.length cfv] 26 := by rw [← hW0]; exact ((IsBlk.new _ _ _).alloc _)
  have hdx : IsBlk W0 (w.heap.size + 1) #[.int .u8 (kx : Int), .bool bx, .int .i64 nx, .string (bs sx), .slice plx lx.length clx, .slice pfx fx.length cfx] 26 := by rw [← hW0]; exact (IsBlk.new_at (by simp))
  have hb0 : Below w.heap.size w W0 := by rw [← hW0]; exact ((Below.refl _ _).alloc (Nat.le_refl _) _).alloc (by simp) _
  have Bv_0 := Lib.hid hdv
  have Bx_0 := Lib.hid hdx
  have BB_0 := Lib.hid hb0
  have hsz_0 := hb0.size
  have hsw_0 : W0.heap.size ≤ w.heap.size + 2 ∧ w.heap.size + 2 ≤ W0.heap.size := by rw [← hW0]; simp
  have Vv_0 := Lib.hid (Hv.out.ext hb0)
  have Vx_0 := Lib.hid (Hx.out.ext hb0)
  clear hW0 hb0 hdv hdx
  have hc := HLIV.out _ BB_0.out
  have HC := Lib.hid hc
  clear hc
  go_wp2_with fail
  go_at_call 11
  refine HC.out.mono ?_
  rintro e' W1 ⟨rfl, hb⟩
  have hbA := hb
  have hsa_1 : W0.heap.size ≤ W1.heap.size := hbA.size
  have Bv_1 := Lib.hid (Bv_0.out.ext hbA)
  have Bx_1 := Lib.hid (Bx_0.out.ext hbA)
  have Vv_1 := Lib.hid (Vv_0.out.ext hbA)
  have Vx_1 := Lib.hid (Vx_0.out.ext hbA)
  have BB_1 := Lib.hid (BB_0.out.trans (hbA.mono BB_0.out.size))
  have hsz_1 := BB_1.out.size
  clear Bv_0 Bx_0 Vv_0 Vx_0
  clear hb hbA HC
  have hv := Bv_1.out
  have cv0 := hv.cell (i := 0) rfl
  have cv1 := hv.cell (i := 1) rfl
  have cv2 := hv.cell (i := 2) rfl
  have cv3 := hv.cell (i := 3) rfl
  have cv4 := hv.cell (i := 4) rfl
  have cv5 := hv.cell (i := 5) rfl
  have hlv := hv.lt
  have hx := Bx_1.out
  have cx0 := hx.cell (i := 0) rfl
  have cx1 := hx.cell (i := 1) rfl
  have cx2 := hx.cell (i := 2) rfl
  have cx3 := hx.cell (i := 3) rfl
  have cx4 := hx.cell (i := 4) rfl
  have cx5 := hx.cell (i := 5) rfl
  have hlx := hx.lt
  clear hv hx
  have hc := put_any kv bv nv sv lv fv name (.mk kx bx nx sx lx fx) _ _ _ _ _ Vv_1.out Vx_1.out (by omega) (by omega)
  rw [HP1.out, if_pos HK.out] at hc
  have HC := Lib.hid hc
  clear hc
  go_wp2_with fail
  go_at_call 14
  refine HC.out.mono ?_
  rintro e' wA1 ⟨cc, rfl, hvn, _, hb⟩
  obtain ⟨pla, cla, pfa, cfa, rfl, _⟩ := hasVal_mk.1 hvn
  have hbA := hb
  clear cv0 cv1 cv2 cv3 cv4 cv5 cx0 cx1 cx2 cx3 cx4 cx5 hlv hlx
  go_upto_region 6 with (fail)
  generalize hWB : World.alloc _ _ = W2
  have hdn : IsBlk W2 wA1.heap.size #[.int .u8 (kv : Int), .bool bv, .int .i64 nv, .string (bs sv), .slice pla lv.length cla, .slice pfa fa.length cfa] 26 := by rw [← hWB]; exact IsBlk.new _ _ _
  have hbn : Below wA1.heap.size wA1 W2 := by rw [← hWB]; exact (Below.refl _ _).alloc (Nat.le_refl _) _
  have hsn_2 : W2.heap.size ≤ wA1.heap.size + 1 ∧ wA1.heap.size + 1 ≤ W2.heap.size := by rw [← hWB]; simp
  have hsa_2 : W1.heap.size ≤ wA1.heap.size := hbA.size
  have hbW := below_ext hbA hbn
  have Ba_2 := Lib.hid hdn
  have hvl : HasVal (fun z => W1.heap.size ≤ z ∧ z < wA1.heap.size) W2 _ _ := (relV.lt hvn).ext_to (fun z hz => ⟨Nat.le_trans (by first | exact Nat.le_refl _ | (simp; done) | (simp; omega)) hz.1, hz.2⟩) (fun z hz _ => hbn.block z hz.2)
  have Va_2 := Lib.hid hvl
  have Bv_2 := Lib.hid (Bv_1.out.ext hbW)
  have Bx_2 := Lib.hid (Bx_1.out.ext hbW)
  have Vv_2 := Lib.hid (Vv_1.out.ext hbW)
  have Vx_2 := Lib.hid (Vx_1.out.ext hbW)
  have BB_2 := Lib.hid (BB_1.out.trans (hbW.mono BB_1.out.size))
  have hsz_2 := BB_2.out.size
  clear Bv_1 Bx_1 Vv_1 Vx_1
  clear hWB hdn hbn hbW hbA hb hvn hvl HC
  have hbx : Below W2.heap.size W2 (W2.alloc (.cells #[.string (bs name)] 9)) := (Below.refl _ _).alloc (Nat.le_refl _) _
  have ha := Ba_2.out
  have ca0 := ha.cell (i := 0) rfl
  have ca1 := ha.cell (i := 1) rfl
  have ca2 := ha.cell (i := 2) rfl
  have ca3 := ha.cell (i := 3) rfl
  have ca4 := ha.cell (i := 4) rfl
  have ca5 := ha.cell (i := 5) rfl
  have hla := ha.lt
  clear ha
  have hc := get_any (.mk kv bv nv sv lv fa) [name] _ (fun _ => True) _ (some ⟨W2.heap.size, 0, none⟩) 1 (W2.alloc (.cells #[.string (bs name)] 9)) (Va_2.out.ext hbx) (hasS1 (IsBlk.new _ _ _)) (by simp) (fun x hx => by rw [List.mem_singleton.1 hx]; omega) ((HNT.out.ext BB_2.out).ext hbx)
  unfold GetPost at hc
  rw [get_name _ _ _ _ _ _ _ HK.out, HG1.out] at hc
  simp only [Option.isSome_some, Option.getD_some] at hc
  have HC := Lib.hid hc
  clear hc
  go_wp2_with fail
  go_at_call 16
  refine HC.out.mono ?_
  rintro e' wA2 ⟨co, rfl, hvn, hb⟩
  obtain ⟨plo, clo, pfo, cfo, rfl, _⟩ := hasVal_mk.1 hvn
  have hbA := below_ext hbx hb
  clear ca0 ca1 ca2 ca3 ca4 ca5 hla
  go_upto_region 7 with (fail)
  generalize hWB : World.alloc _ _ = W3
  have hdn : IsBlk W3 wA2.heap.size #[.int .u8 (kx : Int), .bool bx, .int .i64 nx, .string (bs sx), .slice plo lx.length clo, .slice pfo fx.length cfo] 26 := by rw [← hWB]; exact IsBlk.new _ _ _
  have hbn : Below wA2.heap.size wA2 W3 := by rw [← hWB]; exact (Below.refl _ _).alloc (Nat.le_refl _) _
  have hsn_3 : W3.heap.size ≤ wA2.heap.size + 1 ∧ wA2.heap.size + 1 ≤ W3.heap.size := by rw [← hWB]; simp
  have hsa_3 : W2.heap.size ≤ wA2.heap.size := hbA.size
  have hbW := below_ext hbA hbn
  have Bo_3 := Lib.hid hdn
  have hvl : HasVal (fun z => W2.heap.size ≤ z ∧ z < wA2.heap.size) W3 _ _ := (relV.lt hvn).ext_to (fun z hz => ⟨Nat.le_trans (by first | exact Nat.le_refl _ | (simp; done) | (simp; omega)) hz.1, hz.2⟩) (fun z hz _ => hbn.block z hz.2)
  have Vo_3 := Lib.hid hvl
  have Bv_3 := Lib.hid (Bv_2.out.ext hbW)
  have Bx_3 := Lib.hid (Bx_2.out.ext hbW)
  have Ba_3 := Lib.hid (Ba_2.out.ext hbW)
  have Vv_3 := Lib.hid (Vv_2.out.ext hbW)
  have Vx_3 := Lib.hid (Vx_2.out.ext hbW)
  have Va_3 := Lib.hid (Va_2.out.ext hbW)
  have BB_3 := Lib.hid (BB_2.out.trans (hbW.mono BB_2.out.size))
  have hsz_3 := BB_3.out.size
  clear Bv_2 Bx_2 Ba_2 Vv_2 Vx_2 Va_2
  clear hWB hdn hbn hbW hbA hb hvn hvl HC hbx
  have ha := Ba_3.out
  have ca0 := ha.cell (i := 0) rfl
  have ca1 := ha.cell (i := 1) rfl
  have ca2 := ha.cell (i := 2) rfl
  have ca3 := ha.cell (i := 3) rfl
  have ca4 := ha.cell (i := 4) rfl
  have ca5 := ha.cell (i := 5) rfl
  have hla := ha.lt
  clear ha
  have hc := drop_any kv bv nv sv lv fa name _ _ _ Va_3.out hfal
  rw [HP2.out, if_pos HK.out] at hc
  have HC := Lib.hid hc
  clear hc
  go_wp2_with fail
  go_at_call 26
  refine HC.out.mono ?_
  rintro e' wA3 ⟨ce, rfl, hvn, _, hb⟩
  obtain ⟨pld, cld, pfd, cfd, rfl, _⟩ := hasVal_mk.1 hvn
  have hbA := hb
  clear ca0 ca1 ca2 ca3 ca4 ca5 hla
  go_upto_region 8 with (fail)
  generalize hWB : World.alloc _ _ = W4
  have hdn : IsBlk W4 wA3.heap.size #[.int .u8 (kv : Int), .bool bv, .int .i64 nv, .string (bs sv), .slice pld lv.length cld, .slice pfd fd.length cfd] 26 := by rw [← hWB]; exact IsBlk.new _ _ _
  have hbn : Below wA3.heap.size wA3 W4 := by rw [← hWB]; exact (Below.refl _ _).alloc (Nat.le_refl _) _
  have hsn_4 : W4.heap.size ≤ wA3.heap.size + 1 ∧ wA3.heap.size + 1 ≤ W4.heap.size := by rw [← hWB]; simp
  have hsa_4 : W3.heap.size ≤ wA3.heap.size := hbA.size
  have hbW := below_ext hbA hbn
  have Bd_4 := Lib.hid hdn
  have hvl : HasVal (fun z => W3.heap.size ≤ z ∧ z < wA3.heap.size) W4 _ _ := (relV.lt hvn).ext_to (fun z hz => ⟨Nat.le_trans (by first | exact Nat.le_refl _ | (simp; done) | (simp; omega)) hz.1, hz.2⟩) (fun z hz _ => hbn.block z hz.2)
  have Vd_4 := Lib.hid hvl
  have Bv_4 := Lib.hid (Bv_3.out.ext hbW)
  have Bx_4 := Lib.hid (Bx_3.out.ext hbW)
  have Ba_4 := Lib.hid (Ba_3.out.ext hbW)
  have Bo_4 := Lib.hid (Bo_3.out.ext hbW)
  have Vv_4 := Lib.hid (Vv_3.out.ext hbW)
  have Vx_4 := Lib.hid (Vx_3.out.ext hbW)
  have Va_4 := Lib.hid (Va_3.out.ext hbW)
  have Vo_4 := Lib.hid (Vo_3.out.ext hbW)
  have BB_4 := Lib.hid (BB_3.out.trans (hbW.mono BB_3.out.size))
  have hsz_4 := BB_4.out.size
  clear Bv_3 Bx_3 Ba_3 Bo_3 Vv_3 Vx_3 Va_3 Vo_3
  clear hWB hdn hbn hbW hbA hb hvn hvl HC
  have hbx : Below W4.heap.size W4 (W4.alloc (.cells #[.string (bs name)] 9)) := (Below.refl _ _).alloc (Nat.le_refl _) _
  have hd := Bd_4.out
  have cd0 := hd.cell (i := 0) rfl
  have cd1 := hd.cell (i := 1) rfl
  have cd2 := hd.cell (i := 2) rfl
  have cd3 := hd.cell (i := 3) rfl
  have cd4 := hd.cell (i := 4) rfl
  have cd5 := hd.cell (i := 5) rfl
  have hld := hd.lt
  clear hd
  have hc := get_any (.mk kv bv nv sv lv fd) [name] _ (fun _ => True) _ (some ⟨W4.heap.size, 0, none⟩) 1 (W4.alloc (.cells #[.string (bs name)] 9)) (Vd_4.out.ext hbx) (hasS1 (IsBlk.new _ _ _)) (by simp) (fun x hx => by rw [List.mem_singleton.1 hx]; omega) ((HNT.out.ext BB_4.out).ext hbx)
  unfold GetPost at hc
  rw [get_name _ _ _ _ _ _ _ HK.out, HG2.out] at hc
  simp only [Option.isSome_none, Option.getD_none] at hc
  rw [← HZz.out] at hc
  have HC := Lib.hid hc
  clear hc
  go_wp2_with fail
  go_at_call 16
  refine HC.out.mono ?_
  rintro e' wA4 ⟨co, rfl, hvn, hb⟩
  obtain ⟨plu, clu, pfu, cfu, rfl, _⟩ := hasVal_mk.1 hvn
  have hbA := below_ext hbx hb
  clear cd0 cd1 cd2 cd3 cd4 cd5 hld
  go_upto_region 9 with (fail)
  generalize hWB : World.alloc _ _ = W5
  have hdn : IsBlk W5 wA4.heap.size #[.int .u8 (kz : Int), .bool bz, .int .i64 nz, .string (bs sz), .slice plu lz.length clu, .slice pfu fz.length cfu] 26 := by rw [← hWB]; exact IsBlk.new _ _ _
  have hbn : Below wA4.heap.size wA4 W5 := by rw [← hWB]; exact (Below.refl _ _).alloc (Nat.le_refl _) _
  have hsn_5 : W5.heap.size ≤ wA4.heap.size + 1 ∧ wA4.heap.size + 1 ≤ W5.heap.size := by rw [← hWB]; simp
  have hsa_5 : W4.heap.size ≤ wA4.heap.size := hbA.size
  have hbW := below_ext hbA hbn
  have Bu_5 := Lib.hid hdn
  have hvl : HasVal (fun z => W4.heap.size ≤ z ∧ z < wA4.heap.size) W5 _ _ := (relV.lt hvn).ext_to (fun z hz => ⟨Nat.le_trans (by first | exact Nat.le_refl _ | (simp; done) | (simp; omega)) hz.1, hz.2⟩) (fun z hz _ => hbn.block z hz.2)
  have Vu_5 := Lib.hid hvl
  have Bv_5 := Lib.hid (Bv_4.out.ext hbW)
  have Bx_5 := Lib.hid (Bx_4.out.ext hbW)
  have Ba_5 := Lib.hid (Ba_4.out.ext hbW)
  have Bo_5 := Lib.hid (Bo_4.out.ext hbW)
  have Bd_5 := Lib.hid (Bd_4.out.ext hbW)
  have Vv_5 := Lib.hid (Vv_4.out.ext hbW)
  have Vx_5 := Lib.hid (Vx_4.out.ext hbW)
  have Va_5 := Lib.hid (Va_4.out.ext hbW)
  have Vo_5 := Lib.hid (Vo_4.out.ext hbW)
  have Vd_5 := Lib.hid (Vd_4.out.ext hbW)
  have BB_5 := Lib.hid (BB_4.out.trans (hbW.mono BB_4.out.size))
  have hsz_5 := BB_5.out.size
  clear Bv_4 Bx_4 Ba_4 Bo_4 Bd_4 Vv_4 Vx_4 Va_4 Vo_4 Vd_4
  clear hWB hdn hbn hbW hbA hb hvn hvl HC hbx
  have ho := Bo_5.out
  have co0 := ho.cell (i := 0) rfl
  have co1 := ho.cell (i := 1) rfl
  have co2 := ho.cell (i := 2) rfl
  have co3 := ho.cell (i := 3) rfl
  have co4 := ho.cell (i := 4) rfl
  have co5 := ho.cell (i := 5) rfl
  have hlo := ho.lt
  have hx := Bx_5.out
  have cx0 := hx.cell (i := 0) rfl
  have cx1 := hx.cell (i := 1) rfl
  have cx2 := hx.cell (i := 2) rfl
  have cx3 := hx.cell (i := 3) rfl
  have cx4 := hx.cell (i := 4) rfl
  have cx5 := hx.cell (i := 5) rfl
  have hlx := hx.lt
  clear ho hx
  have hc := sam_any (.mk kx bx nx sx lx fx) (.mk kx bx nx sx lx fx) _ _ _ _ _ Vo_5.out Vx_5.out
  rw [same_refl] at hc
  have HC := Lib.hid hc
  clear hc
  go_wp2_with fail
  go_at_call 22
  refine HC.out.mono ?_
  rintro e' W6 ⟨rfl, hb⟩
  clear co0 co1 co2 co3 co4 co5 cx0 cx1 cx2 cx3 cx4 cx5 hlo hlx
  have hbA := hb
  have hsa_6 : W5.heap.size ≤ W6.heap.size := hbA.size
  have Bv_6 := Lib.hid (Bv_5.out.ext hbA)
  have Bx_6 := Lib.hid (Bx_5.out.ext hbA)
  have Ba_6 := Lib.hid (Ba_5.out.ext hbA)
  have Bo_6 := Lib.hid (Bo_5.out.ext hbA)
  have Bd_6 := Lib.hid (Bd_5.out.ext hbA)
  have Bu_6 := Lib.hid (Bu_5.out.ext hbA)
  have Vv_6 := Lib.hid (Vv_5.out.ext hbA)
  have Vx_6 := Lib.hid (Vx_5.out.ext hbA)
  have Va_6 := Lib.hid (Va_5.out.ext hbA)
  have Vo_6 := Lib.hid (Vo_5.out.ext hbA)
  have Vd_6 := Lib.hid (Vd_5.out.ext hbA)
  have Vu_6 := Lib.hid (Vu_5.out.ext hbA)
  have BB_6 := Lib.hid (BB_5.out.trans (hbA.mono BB_5.out.size))
  have hsz_6 := BB_6.out.size
  clear Bv_5 Bx_5 Ba_5 Bo_5 Bd_5 Bu_5 Vv_5 Vx_5 Va_5 Vo_5 Vd_5 Vu_5
  clear hb hbA HC
  by_cases hon : other = name
  · have hon2 : ((bs other).toList != (bs name).toList) = false := by rw [tl_bs, tl_bs, hon]; simp
    have hon3 : ((bs other).toList == (bs name).toList) = true := by rw [tl_bs, tl_bs, hon]; exact beq_self_eq_true _
    clear hon
    have hv := Bv_6.out
    have cv0 := hv.cell (i := 0) rfl
    have cv1 := hv.cell (i := 1) rfl
    have cv2 := hv.cell (i := 2) rfl
    have cv3 := hv.cell (i := 3) rfl
    have cv4 := hv.cell (i := 4) rfl
    have cv5 := hv.cell (i := 5) rfl
    have hlv := hv.lt
    clear hv
    have hc := check_any (.mk kv bv nv sv lv fv) _ _ _ Vv_6.out (U8T_ext HUT.out BB_6.out)
    rw [← HDV.out] at hc
    have HC := Lib.hid hc
    clear hc
    go_wp2_with fail
    go_at_call 18
    refine HC.out.mono ?_
    rintro e' W7 ⟨rfl, hb⟩
    clear cv0 cv1 cv2 cv3 cv4 cv5 hlv
    have hbA := hb
    have hsa_7 : W6.heap.size ≤ W7.heap.size := hbA.size
    have Bv_7 := Lib.hid (Bv_6.out.ext hbA)
    have Bx_7 := Lib.hid (Bx_6.out.ext hbA)
    have Ba_7 := Lib.hid (Ba_6.out.ext hbA)
    have Bo_7 := Lib.hid (Bo_6.out.ext hbA)
    have Bd_7 := Lib.hid (Bd_6.out.ext hbA)
    have Bu_7 := Lib.hid (Bu_6.out.ext hbA)
    have Vv_7 := Lib.hid (Vv_6.out.ext hbA)
    have Vx_7 := Lib.hid (Vx_6.out.ext hbA)
    have Va_7 := Lib.hid (Va_6.out.ext hbA)
    have Vo_7 := Lib.hid (Vo_6.out.ext hbA)
    have Vd_7 := Lib.hid (Vd_6.out.ext hbA)
    have Vu_7 := Lib.hid (Vu_6.out.ext hbA)
    have BB_7 := Lib.hid (BB_6.out.trans (hbA.mono BB_6.out.size))
    have hsz_7 := BB_7.out.size
    clear Bv_6 Bx_6 Ba_6 Bo_6 Bd_6 Bu_6 Vv_6 Vx_6 Va_6 Vo_6 Vd_6 Vu_6
    clear hb hbA HC
    by_cases hd : dv = 0
    case neg =>
      have hd2 : (dv != 0) = true := by simpa using hd
      clear hd
      go_wp2
      go_ret
      exact ⟨rfl, BB_7.out⟩
    have HD0 := Lib.hid hd
    subst hd
    have hbx : Below W7.heap.size W7 (W7.alloc (.cells ((.string (bs name) :: [.int .u8 (kx : Int), .bool bx, .int .i64 nx, .string (bs sx), .slice plx lx.length clx, .slice pfx fx.length cfx] : List Value).toArray) 38)) := (Below.refl _ _).alloc (Nat.le_refl _) _
    have hx := Bx_7.out
    have cx0 := hx.cell (i := 0) rfl
    have cx1 := hx.cell (i := 1) rfl
    have cx2 := hx.cell (i := 2) rfl
    have cx3 := hx.cell (i := 3) rfl
    have cx4 := hx.cell (i := 4) rfl
    have cx5 := hx.cell (i := 5) rfl
    have hlx := hx.lt
    clear hx
    have hc := check_any (.mk 6 false 0 [] [] [(name, .mk kx bx nx sx lx fx)]) _ _ (W7.alloc (.cells ((.string (bs name) :: [.int .u8 (kx : Int), .bool bx, .int .i64 nx, .string (bs sx), .slice plx lx.length clx, .slice pfx fx.length cfx] : List Value).toArray) 38)) (one_has (IsBlk.new _ _ _) (Vx_7.out.ext hbx) (by omega)) (U8T_ext HUT.out (BB_7.out.trans (hbx.mono BB_7.out.size)))
    rw [← HD1.out] at hc
    have HC := Lib.hid hc
    clear hc
    go_wp2_with fail
    go_at_call 18
    refine HC.out.mono ?_
    rintro e' W8 ⟨rfl, hb⟩
    clear cx0 cx1 cx2 cx3 cx4 cx5 hlx
    have hbA := below_ext hbx hb
    have hsa_8 : W7.heap.size ≤ W8.heap.size := hbA.size
    have Bv_8 := Lib.hid (Bv_7.out.ext hbA)
    have Bx_8 := Lib.hid (Bx_7.out.ext hbA)
    have Ba_8 := Lib.hid (Ba_7.out.ext hbA)
    have Bo_8 := Lib.hid (Bo_7.out.ext hbA)
    have Bd_8 := Lib.hid (Bd_7.out.ext hbA)
    have Bu_8 := Lib.hid (Bu_7.out.ext hbA)
    have Vv_8 := Lib.hid (Vv_7.out.ext hbA)
    have Vx_8 := Lib.hid (Vx_7.out.ext hbA)
    have Va_8 := Lib.hid (Va_7.out.ext hbA)
    have Vo_8 := Lib.hid (Vo_7.out.ext hbA)
    have Vd_8 := Lib.hid (Vd_7.out.ext hbA)
    have Vu_8 := Lib.hid (Vu_7.out.ext hbA)
    have BB_8 := Lib.hid (BB_7.out.trans (hbA.mono BB_7.out.size))
    have hsz_8 := BB_8.out.size
    clear Bv_7 Bx_7 Ba_7 Bo_7 Bd_7 Bu_7 Vv_7 Vx_7 Va_7 Vo_7 Vd_7 Vu_7
    clear hb hbA HC hbx
    have hd := Bd_8.out
    have cd0 := hd.cell (i := 0) rfl
    have cd1 := hd.cell (i := 1) rfl
    have cd2 := hd.cell (i := 2) rfl
    have cd3 := hd.cell (i := 3) rfl
    have cd4 := hd.cell (i := 4) rfl
    have cd5 := hd.cell (i := 5) rfl
    have hld := hd.lt
    clear hd
    have hc := check_any (.mk kv bv nv sv lv fd) _ _ _ Vd_8.out (U8T_ext HUT.out BB_8.out)
    rw [HC1.out (by simp)] at hc
    have HC := Lib.hid hc
    clear hc
    go_wp2_with fail
    go_at_call 18
    refine HC.out.mono ?_
    rintro e' W9 ⟨rfl, hb⟩
    clear cd0 cd1 cd2 cd3 cd4 cd5 hld
    have hbA := hb
    have hsa_9 : W8.heap.size ≤ W9.heap.size := hbA.size
    have Bv_9 := Lib.hid (Bv_8.out.ext hbA)
    have Bx_9 := Lib.hid (Bx_8.out.ext hbA)
    have Ba_9 := Lib.hid (Ba_8.out.ext hbA)
    have Bo_9 := Lib.hid (Bo_8.out.ext hbA)
    have Bd_9 := Lib.hid (Bd_8.out.ext hbA)
    have Bu_9 := Lib.hid (Bu_8.out.ext hbA)
    have Vv_9 := Lib.hid (Vv_8.out.ext hbA)
    have Vx_9 := Lib.hid (Vx_8.out.ext hbA)
    have Va_9 := Lib.hid (Va_8.out.ext hbA)
    have Vo_9 := Lib.hid (Vo_8.out.ext hbA)
    have Vd_9 := Lib.hid (Vd_8.out.ext hbA)
    have Vu_9 := Lib.hid (Vu_8.out.ext hbA)
    have BB_9 := Lib.hid (BB_8.out.trans (hbA.mono BB_8.out.size))
    have hsz_9 := BB_9.out.size
    clear Bv_8 Bx_8 Ba_8 Bo_8 Bd_8 Bu_8 Vv_8 Vx_8 Va_8 Vo_8 Vd_8 Vu_8
    clear hb hbA HC
    by_cases hd : d1 = 0
    case neg =>
      have hd2 : (d1 != 0) = true := by simpa using hd
      clear hd
      go_wp2
      go_ret
      exact ⟨rfl, BB_9.out⟩
    have HD10 := Lib.hid hd
    by_cases hl : fa.length ≤ 64
    case neg =>
      have hl2 : decide ((64 : Int) < (fa.length : Int)) = true := by simp; omega
      have hl3 : (64 : Int) < (fa.length : Int) := by omega
      have hl4 : 64 < fa.length := by omega
      subst hd
      clear hl
      have ha := Ba_9.out
      have ca0 := ha.cell (i := 0) rfl
      have ca1 := ha.cell (i := 1) rfl
      have ca2 := ha.cell (i := 2) rfl
      have ca3 := ha.cell (i := 3) rfl
      have ca4 := ha.cell (i := 4) rfl
      have ca5 := ha.cell (i := 5) rfl
      have hla := ha.lt
      clear ha
      go_wp2
      go_ret
      exact ⟨rfl, BB_9.out⟩
    have hl2 : decide ((64 : Int) < (fa.length : Int)) = false := by simp; omega
    have hl3 : ¬ ((64 : Int) < (fa.length : Int)) := by omega
    have HLL := Lib.hid hl
    subst hd
    clear hl
    have ha := Ba_9.out
    have ca0 := ha.cell (i := 0) rfl
    have ca1 := ha.cell (i := 1) rfl
    have ca2 := ha.cell (i := 2) rfl
    have ca3 := ha.cell (i := 3) rfl
    have ca4 := ha.cell (i := 4) rfl
    have ca5 := ha.cell (i := 5) rfl
    have hla := ha.lt
    clear ha
    have hc := check_any (.mk kv bv nv sv lv fa) _ _ _ Va_9.out (U8T_ext HUT.out BB_9.out)
    rw [HC2.out (by simp) (by simp) HLL.out] at hc
    have HC := Lib.hid hc
    clear hc
    go_wp2_with fail
    go_at_call 18
    refine HC.out.mono ?_
    rintro e' W10 ⟨rfl, hb⟩
    clear ca0 ca1 ca2 ca3 ca4 ca5 hla
    have hbA := hb
    have hsa_10 : W9.heap.size ≤ W10.heap.size := hbA.size
    have Bv_10 := Lib.hid (Bv_9.out.ext hbA)
    have Bx_10 := Lib.hid (Bx_9.out.ext hbA)
    have Ba_10 := Lib.hid (Ba_9.out.ext hbA)
    have Bo_10 := Lib.hid (Bo_9.out.ext hbA)
    have Bd_10 := Lib.hid (Bd_9.out.ext hbA)
    have Bu_10 := Lib.hid (Bu_9.out.ext hbA)
    have Vv_10 := Lib.hid (Vv_9.out.ext hbA)
    have Vx_10 := Lib.hid (Vx_9.out.ext hbA)
    have Va_10 := Lib.hid (Va_9.out.ext hbA)
    have Vo_10 := Lib.hid (Vo_9.out.ext hbA)
    have Vd_10 := Lib.hid (Vd_9.out.ext hbA)
    have Vu_10 := Lib.hid (Vu_9.out.ext hbA)
    have BB_10 := Lib.hid (BB_9.out.trans (hbA.mono BB_9.out.size))
    have hsz_10 := BB_10.out.size
    clear Bv_9 Bx_9 Ba_9 Bo_9 Bd_9 Bu_9 Vv_9 Vx_9 Va_9 Vo_9 Vd_9 Vu_9
    clear hb hbA HC
    go_wp2
    go_ret
    exact ⟨rfl, BB_10.out⟩
  · have hon2 : ((bs other).toList != (bs name).toList) = true := by rw [tl_bs, tl_bs]; simpa using hon
    have hon3 : ((bs other).toList == (bs name).toList) = false := by rw [tl_bs, tl_bs]; simpa using hon
    have HG4 := Lib.hid (HG3.out hon).1
    have HG5 := Lib.hid (HG3.out hon).2
    clear hon
    have hbx : Below W6.heap.size W6 (W6.alloc (.cells #[.string (bs other)] 9)) := (Below.refl _ _).alloc (Nat.le_refl _) _
    have hv := Bv_6.out
    have cv0 := hv.cell (i := 0) rfl
    have cv1 := hv.cell (i := 1) rfl
    have cv2 := hv.cell (i := 2) rfl
    have cv3 := hv.cell (i := 3) rfl
    have cv4 := hv.cell (i := 4) rfl
    have cv5 := hv.cell (i := 5) rfl
    have hlv := hv.lt
    clear hv
    have hc := get_any (.mk kv bv nv sv lv fv) [other] _ (fun _ => True) _ (some ⟨W6.heap.size, 0, none⟩) 1 (W6.alloc (.cells #[.string (bs other)] 9)) (Vv_6.out.ext hbx) (hasS1 (IsBlk.new _ _ _)) (by simp) (fun x hx => by rw [List.mem_singleton.1 hx]; omega) ((HNT.out.ext BB_6.out).ext hbx)
    unfold GetPost at hc
    rw [get_name _ _ _ _ _ _ _ HK.out, ← HQ2.out, ← HZw.out] at hc
    have HC := Lib.hid hc
    clear hc
    go_wp2_with fail
    go_at_call 16
    refine HC.out.mono ?_
    rintro e' wA6 ⟨co, rfl, hvn, hb⟩
    obtain ⟨plg, clg, pfg, cfg, rfl, _⟩ := hasVal_mk.1 hvn
    have hbA := below_ext hbx hb
    clear cv0 cv1 cv2 cv3 cv4 cv5 hlv
    go_upto_region 13 with (fail)
    generalize hWB : World.alloc _ _ = W7
    have hdn : IsBlk W7 wA6.heap.size #[.int .u8 (kw : Int), .bool bw, .int .i64 nw, .string (bs sw), .slice plg lw.length clg, .slice pfg fw.length cfg] 26 := by rw [← hWB]; exact IsBlk.new _ _ _
    have hbn : Below wA6.heap.size wA6 W7 := by rw [← hWB]; exact (Below.refl _ _).alloc (Nat.le_refl _) _
    have hsn_7 : W7.heap.size ≤ wA6.heap.size + 1 ∧ wA6.heap.size + 1 ≤ W7.heap.size := by rw [← hWB]; simp
    have hsa_7 : W6.heap.size ≤ wA6.heap.size := hbA.size
    have hbW := below_ext hbA hbn
    have Bg_7 := Lib.hid hdn
    have hvl : HasVal (fun z => W6.heap.size ≤ z ∧ z < wA6.heap.size) W7 _ _ := (relV.lt hvn).ext_to (fun z hz => ⟨Nat.le_trans (by first | exact Nat.le_refl _ | (simp; done) | (simp; omega)) hz.1, hz.2⟩) (fun z hz _ => hbn.block z hz.2)
    have Vg_7 := Lib.hid hvl
    have Bv_7 := Lib.hid (Bv_6.out.ext hbW)
    have Bx_7 := Lib.hid (Bx_6.out.ext hbW)
    have Ba_7 := Lib.hid (Ba_6.out.ext hbW)
    have Bo_7 := Lib.hid (Bo_6.out.ext hbW)
    have Bd_7 := Lib.hid (Bd_6.out.ext hbW)
    have Bu_7 := Lib.hid (Bu_6.out.ext hbW)
    have Vv_7 := Lib.hid (Vv_6.out.ext hbW)
    have Vx_7 := Lib.hid (Vx_6.out.ext hbW)
    have Va_7 := Lib.hid (Va_6.out.ext hbW)
    have Vo_7 := Lib.hid (Vo_6.out.ext hbW)
    have Vd_7 := Lib.hid (Vd_6.out.ext hbW)
    have Vu_7 := Lib.hid (Vu_6.out.ext hbW)
    have BB_7 := Lib.hid (BB_6.out.trans (hbW.mono BB_6.out.size))
    have hsz_7 := BB_7.out.size
    clear Bv_6 Bx_6 Ba_6 Bo_6 Bd_6 Bu_6 Vv_6 Vx_6 Va_6 Vo_6 Vd_6 Vu_6
    clear hWB hdn hbn hbW hbA hb hvn hvl HC hbx
    have hbx : Below W7.heap.size W7 (W7.alloc (.cells #[.string (bs other)] 9)) := (Below.refl _ _).alloc (Nat.le_refl _) _
    have ha := Ba_7.out
    have ca0 := ha.cell (i := 0) rfl
    have ca1 := ha.cell (i := 1) rfl
    have ca2 := ha.cell (i := 2) rfl
    have ca3 := ha.cell (i := 3) rfl
    have ca4 := ha.cell (i := 4) rfl
    have ca5 := ha.cell (i := 5) rfl
    have hla := ha.lt
    clear ha
    have hc := get_any (.mk kv bv nv sv lv fa) [other] _ (fun _ => True) _ (some ⟨W7.heap.size, 0, none⟩) 1 (W7.alloc (.cells #[.string (bs other)] 9)) (Va_7.out.ext hbx) (hasS1 (IsBlk.new _ _ _)) (by simp) (fun x hx => by rw [List.mem_singleton.1 hx]; omega) ((HNT.out.ext BB_7.out).ext hbx)
    unfold GetPost at hc
    rw [get_name _ _ _ _ _ _ _ HK.out, HG4.out, ← HQ2.out, ← HZw.out] at hc
    have HC := Lib.hid hc
    clear hc
    go_wp2_with fail
    go_at_call 16
    refine HC.out.mono ?_
    rintro e' wA7 ⟨co, rfl, hvn, hb⟩
    obtain ⟨plh, clh, pfh, cfh, rfl, _⟩ := hasVal_mk.1 hvn
    have hbA := below_ext hbx hb
    clear ca0 ca1 ca2 ca3 ca4 ca5 hla
    go_upto_region 14 with (fail)
    generalize hWB : World.alloc _ _ = W8
    have hdn : IsBlk W8 wA7.heap.size #[.int .u8 (kw : Int), .bool bw, .int .i64 nw, .string (bs sw), .slice plh lw.length clh, .slice pfh fw.length cfh] 26 := by rw [← hWB]; exact IsBlk.new _ _ _
    have hbn : Below wA7.heap.size wA7 W8 := by rw [← hWB]; exact (Below.refl _ _).alloc (Nat.le_refl _) _
    have hsn_8 : W8.heap.size ≤ wA7.heap.size + 1 ∧ wA7.heap.size + 1 ≤ W8.heap.size := by rw [← hWB]; simp
    have hsa_8 : W7.heap.size ≤ wA7.heap.size := hbA.size
    have hbW := below_ext hbA hbn
    have Bh_8 := Lib.hid hdn
    have hvl : HasVal (fun z => W7.heap.size ≤ z ∧ z < wA7.heap.size) W8 _ _ := (relV.lt hvn).ext_to (fun z hz => ⟨Nat.le_trans (by first | exact Nat.le_refl _ | (simp; done) | (simp; omega)) hz.1, hz.2⟩) (fun z hz _ => hbn.block z hz.2)
    have Vh_8 := Lib.hid hvl
    have Bv_8 := Lib.hid (Bv_7.out.ext hbW)
    have Bx_8 := Lib.hid (Bx_7.out.ext hbW)
    have Ba_8 := Lib.hid (Ba_7.out.ext hbW)
    have Bo_8 := Lib.hid (Bo_7.out.ext hbW)
    have Bd_8 := Lib.hid (Bd_7.out.ext hbW)
    have Bu_8 := Lib.hid (Bu_7.out.ext hbW)
    have Bg_8 := Lib.hid (Bg_7.out.ext hbW)
    have Vv_8 := Lib.hid (Vv_7.out.ext hbW)
    have Vx_8 := Lib.hid (Vx_7.out.ext hbW)
    have Va_8 := Lib.hid (Va_7.out.ext hbW)
    have Vo_8 := Lib.hid (Vo_7.out.ext hbW)
    have Vd_8 := Lib.hid (Vd_7.out.ext hbW)
    have Vu_8 := Lib.hid (Vu_7.out.ext hbW)
    have Vg_8 := Lib.hid (Vg_7.out.ext hbW)
    have BB_8 := Lib.hid (BB_7.out.trans (hbW.mono BB_7.out.size))
    have hsz_8 := BB_8.out.size
    clear Bv_7 Bx_7 Ba_7 Bo_7 Bd_7 Bu_7 Bg_7 Vv_7 Vx_7 Va_7 Vo_7 Vd_7 Vu_7 Vg_7
    clear hWB hdn hbn hbW hbA hb hvn hvl HC hbx
    have hbx : Below W8.heap.size W8 (W8.alloc (.cells #[.string (bs other)] 9)) := (Below.refl _ _).alloc (Nat.le_refl _) _
    have hd := Bd_8.out
    have cd0 := hd.cell (i := 0) rfl
    have cd1 := hd.cell (i := 1) rfl
    have cd2 := hd.cell (i := 2) rfl
    have cd3 := hd.cell (i := 3) rfl
    have cd4 := hd.cell (i := 4) rfl
    have cd5 := hd.cell (i := 5) rfl
    have hld := hd.lt
    clear hd
    have hc := get_any (.mk kv bv nv sv lv fd) [other] _ (fun _ => True) _ (some ⟨W8.heap.size, 0, none⟩) 1 (W8.alloc (.cells #[.string (bs other)] 9)) (Vd_8.out.ext hbx) (hasS1 (IsBlk.new _ _ _)) (by simp) (fun x hx => by rw [List.mem_singleton.1 hx]; omega) ((HNT.out.ext BB_8.out).ext hbx)
    unfold GetPost at hc
    rw [get_name _ _ _ _ _ _ _ HK.out, HG5.out, ← HQ2.out, ← HZw.out] at hc
    have HC := Lib.hid hc
    clear hc
    go_wp2_with fail
    go_at_call 16
    refine HC.out.mono ?_
    rintro e' wA8 ⟨co, rfl, hvn, hb⟩
    obtain ⟨pli, cli, pfi, cfi, rfl, _⟩ := hasVal_mk.1 hvn
    have hbA := below_ext hbx hb
    clear cd0 cd1 cd2 cd3 cd4 cd5 hld
    go_upto_region 15 with (fail)
    generalize hWB : World.alloc _ _ = W9
    have hdn : IsBlk W9 wA8.heap.size #[.int .u8 (kw : Int), .bool bw, .int .i64 nw, .string (bs sw), .slice pli lw.length cli, .slice pfi fw.length cfi] 26 := by rw [← hWB]; exact IsBlk.new _ _ _
    have hbn : Below wA8.heap.size wA8 W9 := by rw [← hWB]; exact (Below.refl _ _).alloc (Nat.le_refl _) _
    have hsn_9 : W9.heap.size ≤ wA8.heap.size + 1 ∧ wA8.heap.size + 1 ≤ W9.heap.size := by rw [← hWB]; simp
    have hsa_9 : W8.heap.size ≤ wA8.heap.size := hbA.size
    have hbW := below_ext hbA hbn
    have Bi_9 := Lib.hid hdn
    have hvl : HasVal (fun z => W8.heap.size ≤ z ∧ z < wA8.heap.size) W9 _ _ := (relV.lt hvn).ext_to (fun z hz => ⟨Nat.le_trans (by first | exact Nat.le_refl _ | (simp; done) | (simp; omega)) hz.1, hz.2⟩) (fun z hz _ => hbn.block z hz.2)
    have Vi_9 := Lib.hid hvl
    have Bv_9 := Lib.hid (Bv_8.out.ext hbW)
    have Bx_9 := Lib.hid (Bx_8.out.ext hbW)
    have Ba_9 := Lib.hid (Ba_8.out.ext hbW)
    have Bo_9 := Lib.hid (Bo_8.out.ext hbW)
    have Bd_9 := Lib.hid (Bd_8.out.ext hbW)
    have Bu_9 := Lib.hid (Bu_8.out.ext hbW)
    have Bg_9 := Lib.hid (Bg_8.out.ext hbW)
    have Bh_9 := Lib.hid (Bh_8.out.ext hbW)
    have Vv_9 := Lib.hid (Vv_8.out.ext hbW)
    have Vx_9 := Lib.hid (Vx_8.out.ext hbW)
    have Va_9 := Lib.hid (Va_8.out.ext hbW)
    have Vo_9 := Lib.hid (Vo_8.out.ext hbW)
    have Vd_9 := Lib.hid (Vd_8.out.ext hbW)
    have Vu_9 := Lib.hid (Vu_8.out.ext hbW)
    have Vg_9 := Lib.hid (Vg_8.out.ext hbW)
    have Vh_9 := Lib.hid (Vh_8.out.ext hbW)
    have BB_9 := Lib.hid (BB_8.out.trans (hbW.mono BB_8.out.size))
    have hsz_9 := BB_9.out.size
    clear Bv_8 Bx_8 Ba_8 Bo_8 Bd_8 Bu_8 Bg_8 Bh_8 Vv_8 Vx_8 Va_8 Vo_8 Vd_8 Vu_8 Vg_8 Vh_8
    clear hWB hdn hbn hbW hbA hb hvn hvl HC hbx
    have hg := Bg_9.out
    have cg0 := hg.cell (i := 0) rfl
    have cg1 := hg.cell (i := 1) rfl
    have cg2 := hg.cell (i := 2) rfl
    have cg3 := hg.cell (i := 3) rfl
    have cg4 := hg.cell (i := 4) rfl
    have cg5 := hg.cell (i := 5) rfl
    have hlg := hg.lt
    have hh := Bh_9.out
    have ch0 := hh.cell (i := 0) rfl
    have ch1 := hh.cell (i := 1) rfl
    have ch2 := hh.cell (i := 2) rfl
    have ch3 := hh.cell (i := 3) rfl
    have ch4 := hh.cell (i := 4) rfl
    have ch5 := hh.cell (i := 5) rfl
    have hlh := hh.lt
    clear hg hh
    have hc := sam_any (.mk kw bw nw sw lw fw) (.mk kw bw nw sw lw fw) _ _ _ _ _ Vg_9.out Vh_9.out
    rw [same_refl] at hc
    have HC := Lib.hid hc
    clear hc
    go_wp2_with fail
    go_at_call 22
    refine HC.out.mono ?_
    rintro e' W10 ⟨rfl, hb⟩
    clear cg0 cg1 cg2 cg3 cg4 cg5 ch0 ch1 ch2 ch3 ch4 ch5 hlg hlh
    have hbA := hb
    have hsa_10 : W9.heap.size ≤ W10.heap.size := hbA.size
    have Bv_10 := Lib.hid (Bv_9.out.ext hbA)
    have Bx_10 := Lib.hid (Bx_9.out.ext hbA)
    have Ba_10 := Lib.hid (Ba_9.out.ext hbA)
    have Bo_10 := Lib.hid (Bo_9.out.ext hbA)
    have Bd_10 := Lib.hid (Bd_9.out.ext hbA)
    have Bu_10 := Lib.hid (Bu_9.out.ext hbA)
    have Bg_10 := Lib.hid (Bg_9.out.ext hbA)
    have Bh_10 := Lib.hid (Bh_9.out.ext hbA)
    have Bi_10 := Lib.hid (Bi_9.out.ext hbA)
    have Vv_10 := Lib.hid (Vv_9.out.ext hbA)
    have Vx_10 := Lib.hid (Vx_9.out.ext hbA)
    have Va_10 := Lib.hid (Va_9.out.ext hbA)
    have Vo_10 := Lib.hid (Vo_9.out.ext hbA)
    have Vd_10 := Lib.hid (Vd_9.out.ext hbA)
    have Vu_10 := Lib.hid (Vu_9.out.ext hbA)
    have Vg_10 := Lib.hid (Vg_9.out.ext hbA)
    have Vh_10 := Lib.hid (Vh_9.out.ext hbA)
    have Vi_10 := Lib.hid (Vi_9.out.ext hbA)
    have BB_10 := Lib.hid (BB_9.out.trans (hbA.mono BB_9.out.size))
    have hsz_10 := BB_10.out.size
    clear Bv_9 Bx_9 Ba_9 Bo_9 Bd_9 Bu_9 Bg_9 Bh_9 Bi_9 Vv_9 Vx_9 Va_9 Vo_9 Vd_9 Vu_9 Vg_9 Vh_9 Vi_9
    clear hb hbA HC
    have hg := Bg_10.out
    have cg0 := hg.cell (i := 0) rfl
    have cg1 := hg.cell (i := 1) rfl
    have cg2 := hg.cell (i := 2) rfl
    have cg3 := hg.cell (i := 3) rfl
    have cg4 := hg.cell (i := 4) rfl
    have cg5 := hg.cell (i := 5) rfl
    have hlg := hg.lt
    have hi := Bi_10.out
    have ci0 := hi.cell (i := 0) rfl
    have ci1 := hi.cell (i := 1) rfl
    have ci2 := hi.cell (i := 2) rfl
    have ci3 := hi.cell (i := 3) rfl
    have ci4 := hi.cell (i := 4) rfl
    have ci5 := hi.cell (i := 5) rfl
    have hli := hi.lt
    clear hg hi
    have hc := sam_any (.mk kw bw nw sw lw fw) (.mk kw bw nw sw lw fw) _ _ _ _ _ Vg_10.out Vi_10.out
    rw [same_refl] at hc
    have HC := Lib.hid hc
    clear hc
    go_wp2_with fail
    go_at_call 22
    refine HC.out.mono ?_
    rintro e' W11 ⟨rfl, hb⟩
    clear cg0 cg1 cg2 cg3 cg4 cg5 ci0 ci1 ci2 ci3 ci4 ci5 hlg hli
    have hbA := hb
    have hsa_11 : W10.heap.size ≤ W11.heap.size := hbA.size
    have Bv_11 := Lib.hid (Bv_10.out.ext hbA)
    have Bx_11 := Lib.hid (Bx_10.out.ext hbA)
    have Ba_11 := Lib.hid (Ba_10.out.ext hbA)
    have Bo_11 := Lib.hid (Bo_10.out.ext hbA)
    have Bd_11 := Lib.hid (Bd_10.out.ext hbA)
    have Bu_11 := Lib.hid (Bu_10.out.ext hbA)
    have Bg_11 := Lib.hid (Bg_10.out.ext hbA)
    have Bh_11 := Lib.hid (Bh_10.out.ext hbA)
    have Bi_11 := Lib.hid (Bi_10.out.ext hbA)
    have Vv_11 := Lib.hid (Vv_10.out.ext hbA)
    have Vx_11 := Lib.hid (Vx_10.out.ext hbA)
    have Va_11 := Lib.hid (Va_10.out.ext hbA)
    have Vo_11 := Lib.hid (Vo_10.out.ext hbA)
    have Vd_11 := Lib.hid (Vd_10.out.ext hbA)
    have Vu_11 := Lib.hid (Vu_10.out.ext hbA)
    have Vg_11 := Lib.hid (Vg_10.out.ext hbA)
    have Vh_11 := Lib.hid (Vh_10.out.ext hbA)
    have Vi_11 := Lib.hid (Vi_10.out.ext hbA)
    have BB_11 := Lib.hid (BB_10.out.trans (hbA.mono BB_10.out.size))
    have hsz_11 := BB_11.out.size
    clear Bv_10 Bx_10 Ba_10 Bo_10 Bd_10 Bu_10 Bg_10 Bh_10 Bi_10 Vv_10 Vx_10 Va_10 Vo_10 Vd_10 Vu_10 Vg_10 Vh_10 Vi_10
    clear hb hbA HC
    have hv := Bv_11.out
    have cv0 := hv.cell (i := 0) rfl
    have cv1 := hv.cell (i := 1) rfl
    have cv2 := hv.cell (i := 2) rfl
    have cv3 := hv.cell (i := 3) rfl
    have cv4 := hv.cell (i := 4) rfl
    have cv5 := hv.cell (i := 5) rfl
    have hlv := hv.lt
    clear hv
    have hc := check_any (.mk kv bv nv sv lv fv) _ _ _ Vv_11.out (U8T_ext HUT.out BB_11.out)
    rw [← HDV.out] at hc
    have HC := Lib.hid hc
    clear hc
    go_wp2_with fail
    go_at_call 18
    refine HC.out.mono ?_
    rintro e' W12 ⟨rfl, hb⟩
    clear cv0 cv1 cv2 cv3 cv4 cv5 hlv
    have hbA := hb
    have hsa_12 : W11.heap.size ≤ W12.heap.size := hbA.size
    have Bv_12 := Lib.hid (Bv_11.out.ext hbA)
    have Bx_12 := Lib.hid (Bx_11.out.ext hbA)
    have Ba_12 := Lib.hid (Ba_11.out.ext hbA)
    have Bo_12 := Lib.hid (Bo_11.out.ext hbA)
    have Bd_12 := Lib.hid (Bd_11.out.ext hbA)
    have Bu_12 := Lib.hid (Bu_11.out.ext hbA)
    have Bg_12 := Lib.hid (Bg_11.out.ext hbA)
    have Bh_12 := Lib.hid (Bh_11.out.ext hbA)
    have Bi_12 := Lib.hid (Bi_11.out.ext hbA)
    have Vv_12 := Lib.hid (Vv_11.out.ext hbA)
    have Vx_12 := Lib.hid (Vx_11.out.ext hbA)
    have Va_12 := Lib.hid (Va_11.out.ext hbA)
    have Vo_12 := Lib.hid (Vo_11.out.ext hbA)
    have Vd_12 := Lib.hid (Vd_11.out.ext hbA)
    have Vu_12 := Lib.hid (Vu_11.out.ext hbA)
    have Vg_12 := Lib.hid (Vg_11.out.ext hbA)
    have Vh_12 := Lib.hid (Vh_11.out.ext hbA)
    have Vi_12 := Lib.hid (Vi_11.out.ext hbA)
    have BB_12 := Lib.hid (BB_11.out.trans (hbA.mono BB_11.out.size))
    have hsz_12 := BB_12.out.size
    clear Bv_11 Bx_11 Ba_11 Bo_11 Bd_11 Bu_11 Bg_11 Bh_11 Bi_11 Vv_11 Vx_11 Va_11 Vo_11 Vd_11 Vu_11 Vg_11 Vh_11 Vi_11
    clear hb hbA HC
    by_cases hd : dv = 0
    case neg =>
      have hd2 : (dv != 0) = true := by simpa using hd
      clear hd
      go_wp2
      go_ret
      exact ⟨rfl, BB_12.out⟩
    have HD0 := Lib.hid hd
    subst hd
    have hbx : Below W12.heap.size W12 (W12.alloc (.cells ((.string (bs name) :: [.int .u8 (kx : Int), .bool bx, .int .i64 nx, .string (bs sx), .slice plx lx.length clx, .slice pfx fx.length cfx] : List Value).toArray) 38)) := (Below.refl _ _).alloc (Nat.le_refl _) _
    have hx := Bx_12.out
    have cx0 := hx.cell (i := 0) rfl
    have cx1 := hx.cell (i := 1) rfl
    have cx2 := hx.cell (i := 2) rfl
    have cx3 := hx.cell (i := 3) rfl
    have cx4 := hx.cell (i := 4) rfl
    have cx5 := hx.cell (i := 5) rfl
    have hlx := hx.lt
    clear hx
    have hc := check_any (.mk 6 false 0 [] [] [(name, .mk kx bx nx sx lx fx)]) _ _ (W12.alloc (.cells ((.string (bs name) :: [.int .u8 (kx : Int), .bool bx, .int .i64 nx, .string (bs sx), .slice plx lx.length clx, .slice pfx fx.length cfx] : List Value).toArray) 38)) (one_has (IsBlk.new _ _ _) (Vx_12.out.ext hbx) (by omega)) (U8T_ext HUT.out (BB_12.out.trans (hbx.mono BB_12.out.size)))
    rw [← HD1.out] at hc
    have HC := Lib.hid hc
    clear hc
    go_wp2_with fail
    go_at_call 18
    refine HC.out.mono ?_
    rintro e' W13 ⟨rfl, hb⟩
    clear cx0 cx1 cx2 cx3 cx4 cx5 hlx
    have hbA := below_ext hbx hb
    have hsa_13 : W12.heap.size ≤ W13.heap.size := hbA.size
    have Bv_13 := Lib.hid (Bv_12.out.ext hbA)
    have Bx_13 := Lib.hid (Bx_12.out.ext hbA)
    have Ba_13 := Lib.hid (Ba_12.out.ext hbA)
    have Bo_13 := Lib.hid (Bo_12.out.ext hbA)
    have Bd_13 := Lib.hid (Bd_12.out.ext hbA)
    have Bu_13 := Lib.hid (Bu_12.out.ext hbA)
    have Bg_13 := Lib.hid (Bg_12.out.ext hbA)
    have Bh_13 := Lib.hid (Bh_12.out.ext hbA)
    have Bi_13 := Lib.hid (Bi_12.out.ext hbA)
    have Vv_13 := Lib.hid (Vv_12.out.ext hbA)
    have Vx_13 := Lib.hid (Vx_12.out.ext hbA)
    have Va_13 := Lib.hid (Va_12.out.ext hbA)
    have Vo_13 := Lib.hid (Vo_12.out.ext hbA)
    have Vd_13 := Lib.hid (Vd_12.out.ext hbA)
    have Vu_13 := Lib.hid (Vu_12.out.ext hbA)
    have Vg_13 := Lib.hid (Vg_12.out.ext hbA)
    have Vh_13 := Lib.hid (Vh_12.out.ext hbA)
    have Vi_13 := Lib.hid (Vi_12.out.ext hbA)
    have BB_13 := Lib.hid (BB_12.out.trans (hbA.mono BB_12.out.size))
    have hsz_13 := BB_13.out.size
    clear Bv_12 Bx_12 Ba_12 Bo_12 Bd_12 Bu_12 Bg_12 Bh_12 Bi_12 Vv_12 Vx_12 Va_12 Vo_12 Vd_12 Vu_12 Vg_12 Vh_12 Vi_12
    clear hb hbA HC hbx
    have hd := Bd_13.out
    have cd0 := hd.cell (i := 0) rfl
    have cd1 := hd.cell (i := 1) rfl
    have cd2 := hd.cell (i := 2) rfl
    have cd3 := hd.cell (i := 3) rfl
    have cd4 := hd.cell (i := 4) rfl
    have cd5 := hd.cell (i := 5) rfl
    have hld := hd.lt
    clear hd
    have hc := check_any (.mk kv bv nv sv lv fd) _ _ _ Vd_13.out (U8T_ext HUT.out BB_13.out)
    rw [HC1.out (by simp)] at hc
    have HC := Lib.hid hc
    clear hc
    go_wp2_with fail
    go_at_call 18
    refine HC.out.mono ?_
    rintro e' W14 ⟨rfl, hb⟩
    clear cd0 cd1 cd2 cd3 cd4 cd5 hld
    have hbA := hb
    have hsa_14 : W13.heap.size ≤ W14.heap.size := hbA.size
    have Bv_14 := Lib.hid (Bv_13.out.ext hbA)
    have Bx_14 := Lib.hid (Bx_13.out.ext hbA)
    have Ba_14 := Lib.hid (Ba_13.out.ext hbA)
    have Bo_14 := Lib.hid (Bo_13.out.ext hbA)
    have Bd_14 := Lib.hid (Bd_13.out.ext hbA)
    have Bu_14 := Lib.hid (Bu_13.out.ext hbA)
    have Bg_14 := Lib.hid (Bg_13.out.ext hbA)
    have Bh_14 := Lib.hid (Bh_13.out.ext hbA)
    have Bi_14 := Lib.hid (Bi_13.out.ext hbA)
    have Vv_14 := Lib.hid (Vv_13.out.ext hbA)
    have Vx_14 := Lib.hid (Vx_13.out.ext hbA)
    have Va_14 := Lib.hid (Va_13.out.ext hbA)
    have Vo_14 := Lib.hid (Vo_13.out.ext hbA)
    have Vd_14 := Lib.hid (Vd_13.out.ext hbA)
    have Vu_14 := Lib.hid (Vu_13.out.ext hbA)
    have Vg_14 := Lib.hid (Vg_13.out.ext hbA)
    have Vh_14 := Lib.hid (Vh_13.out.ext hbA)
    have Vi_14 := Lib.hid (Vi_13.out.ext hbA)
    have BB_14 := Lib.hid (BB_13.out.trans (hbA.mono BB_13.out.size))
    have hsz_14 := BB_14.out.size
    clear Bv_13 Bx_13 Ba_13 Bo_13 Bd_13 Bu_13 Bg_13 Bh_13 Bi_13 Vv_13 Vx_13 Va_13 Vo_13 Vd_13 Vu_13 Vg_13 Vh_13 Vi_13
    clear hb hbA HC
    by_cases hd : d1 = 0
    case neg =>
      have hd2 : (d1 != 0) = true := by simpa using hd
      clear hd
      go_wp2
      go_ret
      exact ⟨rfl, BB_14.out⟩
    have HD10 := Lib.hid hd
    by_cases hl : fa.length ≤ 64
    case neg =>
      have hl2 : decide ((64 : Int) < (fa.length : Int)) = true := by simp; omega
      have hl3 : (64 : Int) < (fa.length : Int) := by omega
      have hl4 : 64 < fa.length := by omega
      subst hd
      clear hl
      have ha := Ba_14.out
      have ca0 := ha.cell (i := 0) rfl
      have ca1 := ha.cell (i := 1) rfl
      have ca2 := ha.cell (i := 2) rfl
      have ca3 := ha.cell (i := 3) rfl
      have ca4 := ha.cell (i := 4) rfl
      have ca5 := ha.cell (i := 5) rfl
      have hla := ha.lt
      clear ha
      go_wp2
      go_ret
      exact ⟨rfl, BB_14.out⟩
    have hl2 : decide ((64 : Int) < (fa.length : Int)) = false := by simp; omega
    have hl3 : ¬ ((64 : Int) < (fa.length : Int)) := by omega
    have HLL := Lib.hid hl
    subst hd
    clear hl
    have ha := Ba_14.out
    have ca0 := ha.cell (i := 0) rfl
    have ca1 := ha.cell (i := 1) rfl
    have ca2 := ha.cell (i := 2) rfl
    have ca3 := ha.cell (i := 3) rfl
    have ca4 := ha.cell (i := 4) rfl
    have ca5 := ha.cell (i := 5) rfl
    have hla := ha.lt
    clear ha
    have hc := check_any (.mk kv bv nv sv lv fa) _ _ _ Va_14.out (U8T_ext HUT.out BB_14.out)
    rw [HC2.out (by simp) (by simp) HLL.out] at hc
    have HC := Lib.hid hc
    clear hc
    go_wp2_with fail
    go_at_call 18
    refine HC.out.mono ?_
    rintro e' W15 ⟨rfl, hb⟩
    clear ca0 ca1 ca2 ca3 ca4 ca5 hla
    have hbA := hb
    have hsa_15 : W14.heap.size ≤ W15.heap.size := hbA.size
    have Bv_15 := Lib.hid (Bv_14.out.ext hbA)
    have Bx_15 := Lib.hid (Bx_14.out.ext hbA)
    have Ba_15 := Lib.hid (Ba_14.out.ext hbA)
    have Bo_15 := Lib.hid (Bo_14.out.ext hbA)
    have Bd_15 := Lib.hid (Bd_14.out.ext hbA)
    have Bu_15 := Lib.hid (Bu_14.out.ext hbA)
    have Bg_15 := Lib.hid (Bg_14.out.ext hbA)
    have Bh_15 := Lib.hid (Bh_14.out.ext hbA)
    have Bi_15 := Lib.hid (Bi_14.out.ext hbA)
    have Vv_15 := Lib.hid (Vv_14.out.ext hbA)
    have Vx_15 := Lib.hid (Vx_14.out.ext hbA)
    have Va_15 := Lib.hid (Va_14.out.ext hbA)
    have Vo_15 := Lib.hid (Vo_14.out.ext hbA)
    have Vd_15 := Lib.hid (Vd_14.out.ext hbA)
    have Vu_15 := Lib.hid (Vu_14.out.ext hbA)
    have Vg_15 := Lib.hid (Vg_14.out.ext hbA)
    have Vh_15 := Lib.hid (Vh_14.out.ext hbA)
    have Vi_15 := Lib.hid (Vi_14.out.ext hbA)
    have BB_15 := Lib.hid (BB_14.out.trans (hbA.mono BB_14.out.size))
    have hsz_15 := BB_15.out.size
    clear Bv_14 Bx_14 Ba_14 Bo_14 Bd_14 Bu_14 Bg_14 Bh_14 Bi_14 Vv_14 Vx_14 Va_14 Vo_14 Vd_14 Vu_14 Vg_14 Vh_14 Vi_14
    clear hb hbA HC
    go_wp2
    go_ret
    exact ⟨rfl, BB_15.out⟩
end Go.Proofs.YthcojmpigdojoaaDoor
