/- ValueOwn: what is got, put and dropped is its asker's own. Conditions: the values and the name lie in memory; the bulk is at most 2^20; the tables and the two errors read as the texts lay them. -/
import Derived.Test.YthcojmpigdojoaaDoorVParts
import Derived.Test.YthcojmpigdojoaaDoorOwnW
set_option linter.unusedVariables false
set_option linter.unusedSimpArgs false
namespace Go.Proofs.YthcojmpigdojoaaDoor
open Go Go.RowKit Go.BigFrame
set_option maxRecDepth 100000

/-- A row's block, with its cells. -/
def RowOk (p : Option Addr) (N : Nat) (w : World) : Prop := N = 0 ∨ ∃ g cs t, p = some ⟨g, 0, none⟩ ∧ IsBlk w g (cs : List Value).toArray t ∧ N ≤ cs.length
theorem RowOk.get {p : Option Addr} {N : Nat} {w : World} (h : RowOk p N w) (h0 : 0 < N) : ∃ g cs t, p = some ⟨g, 0, none⟩ ∧ IsBlk w g (cs : List Value).toArray t ∧ N ≤ cs.length := by
  rcases h with h | h
  · omega
  · exact h
theorem RowOk.ext {p : Option Addr} {N : Nat} {w w' : World} (h : RowOk p N w) (hb : Below w.heap.size w w') : RowOk p N w' := by
  rcases h with h | ⟨g, cs, t, h1, h2, h3⟩
  · exact .inl h
  · exact .inr ⟨g, cs, t, h1, h2.ext hb, h3⟩
theorem RowOk.grown {p : Option Addr} {N : Nat} {w w' : World} {r : Option Nat} (h : RowOk p N w) (hg : w.grownBy w' r) (hne : ∀ z, p = some ⟨z, 0, none⟩ → r ≠ some z) : RowOk p N w' := by
  rcases h with h | ⟨g, cs, t, h1, h2, h3⟩
  · exact .inl h
  · exact .inr ⟨g, cs, t, h1, blk_grown h2 hg (hne g h1), h3⟩
theorem putAt_length : ∀ (vs : List Value) (xs : List Value) (o : Nat), (putAt xs o vs).length = xs.length
  | [], _, _ => rfl
  | v :: vs, xs, o => by rw [putAt, putAt_length vs, List.length_set]
theorem rowOk_set {g : Nat} {cs : List Value} {t : TypeId} {w : World} {N o : Nat} {vs : List Value} (h : IsBlk w g cs.toArray t) (hN : N ≤ cs.length) : RowOk (some ⟨g, 0, none⟩) N (w.setCells g o vs) :=
  .inr ⟨g, _, t, rfl, blk_setCells vs o w cs h, by rw [putAt_length]; exact hN⟩
theorem rows_own {B : Nat} {w : World} {k : Nat} {b : Bool} {n : Int} {s : List UInt8} {l : List DVal} {f : List (List UInt8 × DVal)} {pl pf : Option Addr} {cl cf : Nat} (h : OwnRows B w [.int .u8 (k : Int), .bool b, .int .i64 n, .string (bs s), .slice pl l.length cl, .slice pf f.length cf] (.mk k b n s l f)) :
    (∀ z, (Value.slice pf f.length cf).ownBlock = some z → B ≤ z ∧ z < w.heap.size) ∧ RowOk pf (f.length * 7) w := by
  obtain ⟨p1, c1, v2, he, _, _, _, css, ⟨h1, h2⟩, h3, _⟩ := h
  have e : Value.slice pf f.length cf = v2 := Option.some.inj (congrArg (fun l : List Value => l[5]?) he)
  subst e
  refine ⟨fun z hz => World.ownsRow.lt ⟨h1, h2⟩ z hz, ?_⟩
  rcases h2 with ⟨_, h2⟩ | ⟨g, cap, cur, h2, hB, hg, hnc, _, hcs, _⟩
  · exact .inl (by rw [h2])
  · obtain ⟨e1, _, _⟩ := Value.slice.inj h2
    refine .inr ⟨g, cur.toList, _, e1, (show IsBlk w g cur.toList.toArray 38 by rw [Array.toArray_toList]; exact hg), ?_⟩
    rw [show cur.toList.length = cap * 7 by simpa using hcs]
    exact Nat.mul_le_mul_right _ hnc
theorem free_own {B : Nat} {w : World} {k : Nat} {b : Bool} {n : Int} {s : List UInt8} {l : List DVal} {f : List (List UInt8 × DVal)} {pl pf : Option Addr} {cl cf : Nat} (h : FreeL B w [.int .u8 (k : Int), .bool b, .int .i64 n, .string (bs s), .slice pl l.length cl, .slice pf f.length cf]) :
    (∀ z, (Value.slice pl l.length cl).ownBlock = some z → B ≤ z ∧ z < w.heap.size) ∧ RowOk pl (l.length * 6) w ∧ ∀ z, (Value.slice pl l.length cl).ownBlock = some z → (Value.slice pf f.length cf).ownBlock ≠ some z := by
  rcases h _ _ _ _ _ _ rfl rfl with ⟨h1, h2⟩ | ⟨g, cur, t, h1, h2, h3, h4, h5⟩
  · subst h1
    exact ⟨(fun z hz => by cases hz), .inl (by rw [h2]), (fun z hz => by cases hz)⟩
  · subst h1
    refine ⟨fun z hz => ?_, .inr ⟨g, cur.toList, t, rfl, by rw [Array.toArray_toList]; exact h3, by simpa using h4⟩, fun z hz => ?_⟩
    · have e : g = z := Option.some.inj hz
      rw [← e]
      exact ⟨h2, h3.lt⟩
    · have e : g = z := Option.some.inj hz
      rw [← e]
      exact h5
set_option maxHeartbeats 16000000 in
theorem vown_any (V X : DVal) (name : List UInt8) (S SX : Nat → Prop) (cv cx : List Value) (w : World) (hV : HasVal S w V cv) (hX : HasVal SX w X cx) (hna : name.length ≤ 1048576) (hN : NumT w) (hU8 : U8T w) (hbv : bulkV V ≤ 1048576) :
    Calls Tryd.prog 4 #[.agg cv.toArray, .string (bs name), .agg cx.toArray] w fun e' w' => e' = .returned (.bool true) ∧ Below w.heap.size w w' := by
  have HNT := Lib.hid hN
  have HUT := Lib.hid hU8
  have HLIV := Lib.hid (fun w' (hb : Below w.heap.size w w') => vlives_any w' (hN.ext hb) (U8T_ext hU8 hb))
  have Hv0 := Lib.hid hV
  have Hx0 := Lib.hid hX
  obtain ⟨kv, bv, nv, sv, lv, fv⟩ := V
  obtain ⟨kx, bx, nx, sx, lx, fx⟩ := X
  have hfl := len_bulk hbv
  obtain ⟨plv, clv, pfv, cfv, rfl, _⟩ := hasVal_mk.1 hV
  obtain ⟨plx, clx, pfx, cfx, rfl, _⟩ := hasVal_mk.1 hX
  have Hv := Lib.hid (relV.lt Hv0.out)
  have Hx := Lib.hid (relV.lt Hx0.out)
  clear hN hU8 hV Hv0 hX Hx0
  obtain ⟨Za, hZa⟩ : ∃ Z, Z = putV name (.mk kx bx nx sx lx fx) (.mk kv bv nv sv lv fv) := ⟨_, rfl⟩
  have HZa := Lib.hid hZa
  obtain ⟨c6, hc6⟩ : ∃ c : Int, c = (if kv = 6 then 0 else 5) := ⟨_, rfl⟩
  have HC6 := Lib.hid hc6
  obtain ⟨ka, ba, na, sa, la, fa⟩ := Za
  clear hZa hc6
  show Calls Tryd.prog 4 #[.agg #[.int .u8 (kv : Int), .bool bv, .int .i64 nv, .string (bs sv), .slice plv lv.length clv, .slice pfv fv.length cfv], .string (bs name), .agg #[.int .u8 (kx : Int), .bool bx, .int .i64 nx, .string (bs sx), .slice plx lx.length clx, .slice pfx fx.length cfx]] w _
  go_enter Tryd.func4, Tryd.ntmps4
  go_upto_region 1 with (fail)
  generalize hW0 : World.alloc (World.alloc w _) _ = W0
  have hdv : IsBlk W0 (w.heap.size) #[.int .u8 (kv : Int), .bool bv, .int .i64 nv, .string (bs sv), .slice plv lv.length clv, .slice pfv fv.length cfv] 26 := by rw [← hW0]; exact ((IsBlk.new _ _ _).alloc _)
  have hdx : IsBlk W0 (w.heap.size + 1) #[.int .u8 (kx : Int), .bool bx, .int .i64 nx, .string (bs sx), .slice plx lx.length clx, .slice pfx fx.length cfx] 26 := by rw [← hW0]; exact (IsBlk.new_at (by simp))
  have hb0 : Below w.heap.size w W0 := by rw [← hW0]; exact ((Below.refl _ _).alloc (Nat.le_refl _) _).alloc (by simp) _
  have Bv_0 := Lib.hid hdv
  have Bx_0 := Lib.hid hdx
  have BB_0 := Lib.hid hb0
  have hsz_0 := hb0.size
  have hsw_0 : W0.heap.size ≤ w.heap.size + 2 ∧ w.heap.size + 2 ≤ W0.heap.size := by rw [← hW0]; simp
  have Vv_0 := Lib.hid (Hv.out.ext hb0)
  have Vx_0 := Lib.hid (Hx.out.ext hb0)
  clear hW0 hb0 hdv hdx
  have hc := HLIV.out _ BB_0.out
  have HC := Lib.hid hc
  clear hc
  go_wp2_with fail
  go_at_call 11
  refine HC.out.mono ?_
  rintro e' W1 ⟨rfl, hb⟩
  have hbA := hb
  have hsa_1 : W0.heap.size ≤ W1.heap.size := hbA.size
  have Bv_1 := Lib.hid (Bv_0.out.ext hbA)
  have Bx_1 := Lib.hid (Bx_0.out.ext hbA)
  have Vv_1 := Lib.hid (Vv_0.out.ext hbA)
  have Vx_1 := Lib.hid (Vx_0.out.ext hbA)
  have BB_1 := Lib.hid (BB_0.out.trans (hbA.mono BB_0.out.size))
  have hsz_1 := BB_1.out.size
  clear Bv_0 Bx_0 Vv_0 Vx_0
  clear hb hbA HC
  have hv := Bv_1.out
  have cv0 := hv.cell (i := 0) rfl
  have cv1 := hv.cell (i := 1) rfl
  have cv2 := hv.cell (i := 2) rfl
  have cv3 := hv.cell (i := 3) rfl
  have cv4 := hv.cell (i := 4) rfl
  have cv5 := hv.cell (i := 5) rfl
  have hlv := hv.lt
  clear hv
  have hc := rcopy_any (.mk kv bv nv sv lv fv) _ _ _ Vv_1.out
  have HC := Lib.hid hc
  clear hc
  go_wp2_with fail
  go_at_call 15
  refine HC.out.mono ?_
  rintro e' wA1 ⟨cg, rfl, hvn, _, hb⟩
  obtain ⟨plg, clg, pfg, cfg, rfl, _⟩ := hasVal_mk.1 hvn
  have hbA := hb
  clear cv0 cv1 cv2 cv3 cv4 cv5 hlv
  go_upto_region 4 with (fail)
  generalize hWB : World.alloc _ _ = W2
  have hdn : IsBlk W2 wA1.heap.size #[.int .u8 (kv : Int), .bool bv, .int .i64 nv, .string (bs sv), .slice plg lv.length clg, .slice pfg fv.length cfg] 26 := by rw [← hWB]; exact IsBlk.new _ _ _
  have hbn : Below wA1.heap.size wA1 W2 := by rw [← hWB]; exact (Below.refl _ _).alloc (Nat.le_refl _) _
  have hsn_2 : W2.heap.size ≤ wA1.heap.size + 1 ∧ wA1.heap.size + 1 ≤ W2.heap.size := by rw [← hWB]; simp
  have hsa_2 : W1.heap.size ≤ wA1.heap.size := hbA.size
  have hbW := below_ext hbA hbn
  have Bg_2 := Lib.hid hdn
  have hvl : HasVal (fun z => W1.heap.size ≤ z ∧ z < wA1.heap.size) W2 _ _ := (relV.lt hvn).ext_to (fun z hz => ⟨Nat.le_trans (by first | exact Nat.le_refl _ | (simp; done) | (simp; omega)) hz.1, hz.2⟩) (fun z hz _ => hbn.block z hz.2)
  have Vg_2 := Lib.hid hvl
  have Bv_2 := Lib.hid (Bv_1.out.ext hbW)
  have Bx_2 := Lib.hid (Bx_1.out.ext hbW)
  have Vv_2 := Lib.hid (Vv_1.out.ext hbW)
  have Vx_2 := Lib.hid (Vx_1.out.ext hbW)
  have BB_2 := Lib.hid (BB_1.out.trans (hbW.mono BB_1.out.size))
  have hsz_2 := BB_2.out.size
  clear Bv_1 Bx_1 Vv_1 Vx_1
  clear hWB hdn hbn hbW hbA hb hvn hvl HC
  have hg := Bg_2.out
  have cg0 := hg.cell (i := 0) rfl
  have cg1 := hg.cell (i := 1) rfl
  have cg2 := hg.cell (i := 2) rfl
  have cg3 := hg.cell (i := 3) rfl
  have cg4 := hg.cell (i := 4) rfl
  have cg5 := hg.cell (i := 5) rfl
  have hlg := hg.lt
  have hx := Bx_2.out
  have cx0 := hx.cell (i := 0) rfl
  have cx1 := hx.cell (i := 1) rfl
  have cx2 := hx.cell (i := 2) rfl
  have cx3 := hx.cell (i := 3) rfl
  have cx4 := hx.cell (i := 4) rfl
  have cx5 := hx.cell (i := 5) rfl
  have hlx := hx.lt
  clear hg hx
  have hc := put_any kv bv nv sv lv fv name (.mk kx bx nx sx lx fx) _ _ _ _ _ Vg_2.out Vx_2.out (by omega) (by omega)
  rw [← HZa.out, ← HC6.out] at hc
  have HC := Lib.hid hc
  clear hc
  go_wp2_with fail
  go_at_call 14
  refine HC.out.mono ?_
  rintro e' wA2 ⟨cc, rfl, hvn, hro, hb⟩
  obtain ⟨pla, cla, pfa, cfa, rfl, _⟩ := hasVal_mk.1 hvn
  have hbA := hb
  clear cg0 cg1 cg2 cg3 cg4 cg5 cx0 cx1 cx2 cx3 cx4 cx5 hlg hlx
  go_upto_region 5 with (fail)
  generalize hWB : World.alloc _ _ = W3
  have hdn : IsBlk W3 wA2.heap.size #[.int .u8 (ka : Int), .bool ba, .int .i64 na, .string (bs sa), .slice pla la.length cla, .slice pfa fa.length cfa] 26 := by rw [← hWB]; exact IsBlk.new _ _ _
  have hbn : Below wA2.heap.size wA2 W3 := by rw [← hWB]; exact (Below.refl _ _).alloc (Nat.le_refl _) _
  have hsn_3 : W3.heap.size ≤ wA2.heap.size + 1 ∧ wA2.heap.size + 1 ≤ W3.heap.size := by rw [← hWB]; simp
  have hsa_3 : W2.heap.size ≤ wA2.heap.size := hbA.size
  have hbW := below_ext hbA hbn
  have Ba_3 := Lib.hid hdn
  have hvl : HasVal (fun z => W2.heap.size ≤ z ∧ z < wA2.heap.size) W3 _ _ := (relV.lt hvn).ext_to (fun z hz => ⟨Nat.le_trans (by first | exact Nat.le_refl _ | (simp; done) | (simp; omega)) hz.1, hz.2⟩) (fun z hz _ => hbn.block z hz.2)
  have Va_3 := Lib.hid hvl
  have HRA := Lib.hid hro
  have HVA := Lib.hid hvn
  have HWA := Lib.hid hbn
  clear hro
  have Bv_3 := Lib.hid (Bv_2.out.ext hbW)
  have Bx_3 := Lib.hid (Bx_2.out.ext hbW)
  have Bg_3 := Lib.hid (Bg_2.out.ext hbW)
  have Vv_3 := Lib.hid (Vv_2.out.ext hbW)
  have Vx_3 := Lib.hid (Vx_2.out.ext hbW)
  have Vg_3 := Lib.hid (Vg_2.out.ext hbW)
  have BB_3 := Lib.hid (BB_2.out.trans (hbW.mono BB_2.out.size))
  have hsz_3 := BB_3.out.size
  clear Bv_2 Bx_2 Bg_2 Vv_2 Vx_2 Vg_2
  clear hWB hdn hbn hbW hbA hb hvn hvl HC
  have hg := Bg_3.out
  have cg0 := hg.cell (i := 0) rfl
  have cg1 := hg.cell (i := 1) rfl
  have cg2 := hg.cell (i := 2) rfl
  have cg3 := hg.cell (i := 3) rfl
  have cg4 := hg.cell (i := 4) rfl
  have cg5 := hg.cell (i := 5) rfl
  have hlg := hg.lt
  clear hg
  have hc := get_nil kv bv nv sv lv fv _ _ _ Vg_3.out
  have HC := Lib.hid hc
  clear hc
  go_wp2_with fail
  go_at_call 16
  refine HC.out.mono ?_
  rintro e' wA3 ⟨cb, rfl, hvn, hro, hfr, hb⟩
  obtain ⟨plb, clb, pfb, cfb, rfl, _⟩ := hasVal_mk.1 hvn
  have hbA := hb
  clear cg0 cg1 cg2 cg3 cg4 cg5 hlg
  go_upto_region 6 with (fail)
  generalize hWB : World.alloc _ _ = W4
  have hdn : IsBlk W4 wA3.heap.size #[.int .u8 (kv : Int), .bool bv, .int .i64 nv, .string (bs sv), .slice plb lv.length clb, .slice pfb fv.length cfb] 26 := by rw [← hWB]; exact IsBlk.new _ _ _
  have hbn : Below wA3.heap.size wA3 W4 := by rw [← hWB]; exact (Below.refl _ _).alloc (Nat.le_refl _) _
  have hsn_4 : W4.heap.size ≤ wA3.heap.size + 1 ∧ wA3.heap.size + 1 ≤ W4.heap.size := by rw [← hWB]; simp
  have hsa_4 : W3.heap.size ≤ wA3.heap.size := hbA.size
  have hbW := below_ext hbA hbn
  have Bb_4 := Lib.hid hdn
  have hvl : HasVal (fun z => W3.heap.size ≤ z ∧ z < wA3.heap.size) W4 _ _ := (relV.lt hvn).ext_to (fun z hz => ⟨Nat.le_trans (by first | exact Nat.le_refl _ | (simp; done) | (simp; omega)) hz.1, hz.2⟩) (fun z hz _ => hbn.block z hz.2)
  have Vb_4 := Lib.hid hvl
  have HRB := Lib.hid hro
  have HFB := Lib.hid hfr
  have HWB := Lib.hid hbn
  have HWA4 := Lib.hid (below_ext HWA.out hbW)
  clear hro hfr
  have Bv_4 := Lib.hid (Bv_3.out.ext hbW)
  have Bx_4 := Lib.hid (Bx_3.out.ext hbW)
  have Bg_4 := Lib.hid (Bg_3.out.ext hbW)
  have Ba_4 := Lib.hid (Ba_3.out.ext hbW)
  have Vv_4 := Lib.hid (Vv_3.out.ext hbW)
  have Vx_4 := Lib.hid (Vx_3.out.ext hbW)
  have Vg_4 := Lib.hid (Vg_3.out.ext hbW)
  have Va_4 := Lib.hid (Va_3.out.ext hbW)
  have BB_4 := Lib.hid (BB_3.out.trans (hbW.mono BB_3.out.size))
  have hsz_4 := BB_4.out.size
  clear Bv_3 Bx_3 Bg_3 Ba_3 Vv_3 Vx_3 Vg_3 Va_3
  clear hWB hdn hbn hbW hbA hb hvn hvl HC
  obtain ⟨hrw1, hok1⟩ := rows_own HRA.out
  have HOK1 := Lib.hid (hok1.ext HWA4.out)
  obtain ⟨hrw3, hok3⟩ := rows_own HRB.out
  have HOK3 := Lib.hid (hok3.ext HWB.out)
  obtain ⟨hrw2, hok2, hne23⟩ := free_own HFB.out
  have HOK2 := Lib.hid (hok2.ext HWB.out)
  clear hok1 hok2 hok3 Va_4 Vb_4
  have hbb := Ba_4.out
  have c5 := hbb.cell (i := 5) rfl
  have hlb := hbb.lt
  clear hbb
  go_wp2
  clear c5 hlb
  go_loopw [36] (fun i wr => ∃ j : Nat, i = .int .i64 (j : Int) ∧ j ≤ fa.length ∧ W4.grownBy wr (Value.slice pfa fa.length cfa).ownBlock ∧ RowOk pfa (fa.length * 7) wr) (fun i _ => fa.length - (intOf i).toNat)
  case atStart => exact ⟨0, rfl, Nat.zero_le _, ⟨rfl, rfl, rfl, Nat.le_refl _, fun _ _ _ => rfl⟩, HOK1.out⟩
  case round =>
  obtain ⟨j, rfl, hj, hg, hro⟩ := hrel
  have HG := Lib.hid hg
  have hbb := blk_grown Ba_4.out hg (fun e => by have h9 := hrw1 _ e; omega)
  have c5 := hbb.cell (i := 5) rfl
  have hlb := hbb.lt
  clear hbb hg
  by_cases hlt : j < fa.length
  · obtain ⟨gr, cs, t, hp, hgb, hN⟩ := hro.get (by omega)
    subst hp
    obtain ⟨v0, x0⟩ : ∃ v, wr.cell? ⟨gr, j * 7, none⟩ = some v := ⟨_, hgb.cell (i := j * 7) (List.getElem?_toArray.trans (List.getElem?_eq_getElem (by omega)))⟩
    have y0 := hgb.frozen (j * 7)
    have hlg := hgb.lt
    have HF := Lib.hid (And.intro (grown_setCells HG.out (j * 7) [.string ⟨#[115, 112, 111, 105, 108, 116]⟩]) (rowOk_set (o := j * 7) (vs := [.string ⟨#[115, 112, 111, 105, 108, 116]⟩]) hgb hN))
    clear hgb hro hN
    go_wp2
    clear x0 y0
    go_roundw
    case rel => exact ⟨j + 1, by go_num, hlt, HF.out.1, HF.out.2⟩
    case measure => simp [intOf]; omega
  obtain rfl : j = fa.length := by omega
  obtain ⟨W5, hWn⟩ : ∃ W, W = wr := ⟨_, rfl⟩
  subst hWn
  have hbb := HG.out
  have Bv_5 := Lib.hid (blk_grown Bv_4.out HG.out (fun e => by have h9 := hrw1 _ e; omega))
  have Bx_5 := Lib.hid (blk_grown Bx_4.out HG.out (fun e => by have h9 := hrw1 _ e; omega))
  have Bg_5 := Lib.hid (blk_grown Bg_4.out HG.out (fun e => by have h9 := hrw1 _ e; omega))
  have Ba_5 := Lib.hid (blk_grown Ba_4.out HG.out (fun e => by have h9 := hrw1 _ e; omega))
  have Bb_5 := Lib.hid (blk_grown Bb_4.out HG.out (fun e => by have h9 := hrw1 _ e; omega))
  have Vv_5 := Lib.hid (Vv_4.out.ext_to (fun _ h => h) (fun z hz hlt => HG.out.block z hlt (fun e => by have h9 := hrw1 z e.symm; have h8 : _ ∧ _ := hz; have h8a := h8.1; have h8b := h8.2; omega)))
  have Vx_5 := Lib.hid (Vx_4.out.ext_to (fun _ h => h) (fun z hz hlt => HG.out.block z hlt (fun e => by have h9 := hrw1 z e.symm; have h8 : _ ∧ _ := hz; have h8a := h8.1; have h8b := h8.2; omega)))
  have Vg_5 := Lib.hid (Vg_4.out.ext_to (fun _ h => h) (fun z hz hlt => HG.out.block z hlt (fun e => by have h9 := hrw1 z e.symm; have h8 : _ ∧ _ := hz; have h8a := h8.1; have h8b := h8.2; omega)))
  have BB_5 := Lib.hid (below_grown BB_4.out HG.out BB_4.out.size (fun z hz => by have h9 := hrw1 z hz; omega))
  have hsz_5 := BB_5.out.size
  have hsa_5 : W4.heap.size ≤ W5.heap.size := HG.out.size
  have HOK2b := Lib.hid (HOK2.out.grown HG.out (fun z hz e => by have h9 := hrw1 z e; have h8 := hrw2 z (by rw [hz]; rfl); omega))
  have HOK3b := Lib.hid (HOK3.out.grown HG.out (fun z hz e => by have h9 := hrw1 z e; have h8 := hrw3 z (by rw [hz]; rfl); omega))
  clear hbb hro hlt hj c5 hlb HG
  have hbb := Bb_5.out
  have c4 := hbb.cell (i := 4) rfl
  have hlb := hbb.lt
  clear hbb
  go_wp2
  clear c4 hlb
  go_loopw [48] (fun i wr => ∃ j : Nat, i = .int .i64 (j : Int) ∧ j ≤ lv.length ∧ W5.grownBy wr (Value.slice plb lv.length clb).ownBlock ∧ RowOk plb (lv.length * 6) wr) (fun i _ => lv.length - (intOf i).toNat)
  case atStart => exact ⟨0, rfl, Nat.zero_le _, ⟨rfl, rfl, rfl, Nat.le_refl _, fun _ _ _ => rfl⟩, HOK2b.out⟩
  case round =>
  obtain ⟨j, rfl, hj, hg, hro⟩ := hrel
  have HG := Lib.hid hg
  have hbb := blk_grown Bb_5.out hg (fun e => by have h9 := hrw2 _ e; omega)
  have c4 := hbb.cell (i := 4) rfl
  have hlb := hbb.lt
  clear hbb hg
  by_cases hlt : j < lv.length
  · obtain ⟨gr, cs, t, hp, hgb, hN⟩ := hro.get (by omega)
    subst hp
    obtain ⟨v0, x0⟩ : ∃ v, wr.cell? ⟨gr, j * 6, none⟩ = some v := ⟨_, hgb.cell (i := j * 6) (List.getElem?_toArray.trans (List.getElem?_eq_getElem (by omega)))⟩
    have y0 := hgb.frozen (j * 6)
    obtain ⟨v1, x1⟩ : ∃ v, wr.cell? ⟨gr, j * 6 + 1, none⟩ = some v := ⟨_, hgb.cell (i := j * 6 + 1) (List.getElem?_toArray.trans (List.getElem?_eq_getElem (by omega)))⟩
    have y1 := hgb.frozen (j * 6 + 1)
    obtain ⟨v2, x2⟩ : ∃ v, wr.cell? ⟨gr, j * 6 + 2, none⟩ = some v := ⟨_, hgb.cell (i := j * 6 + 2) (List.getElem?_toArray.trans (List.getElem?_eq_getElem (by omega)))⟩
    have y2 := hgb.frozen (j * 6 + 2)
    obtain ⟨v3, x3⟩ : ∃ v, wr.cell? ⟨gr, j * 6 + 3, none⟩ = some v := ⟨_, hgb.cell (i := j * 6 + 3) (List.getElem?_toArray.trans (List.getElem?_eq_getElem (by omega)))⟩
    have y3 := hgb.frozen (j * 6 + 3)
    obtain ⟨v4, x4⟩ : ∃ v, wr.cell? ⟨gr, j * 6 + 4, none⟩ = some v := ⟨_, hgb.cell (i := j * 6 + 4) (List.getElem?_toArray.trans (List.getElem?_eq_getElem (by omega)))⟩
    have y4 := hgb.frozen (j * 6 + 4)
    obtain ⟨v5, x5⟩ : ∃ v, wr.cell? ⟨gr, j * 6 + 5, none⟩ = some v := ⟨_, hgb.cell (i := j * 6 + 5) (List.getElem?_toArray.trans (List.getElem?_eq_getElem (by omega)))⟩
    have y5 := hgb.frozen (j * 6 + 5)
    have hlg := hgb.lt
    have HF := Lib.hid (And.intro (grown_setCells HG.out (j * 6) [.int .u8 2, .bool false, .int .i64 9, .string ⟨#[]⟩, .slice none 0 0, .slice none 0 0]) (rowOk_set (o := j * 6) (vs := [.int .u8 2, .bool false, .int .i64 9, .string ⟨#[]⟩, .slice none 0 0, .slice none 0 0]) hgb hN))
    clear hgb hro hN
    go_wp2
    clear x0 y0 x1 y1 x2 y2 x3 y3 x4 y4 x5 y5
    go_roundw
    case rel => exact ⟨j + 1, by go_num, hlt, HF.out.1, HF.out.2⟩
    case measure => simp [intOf]; omega
  obtain rfl : j = lv.length := by omega
  obtain ⟨W6, hWn⟩ : ∃ W, W = wr := ⟨_, rfl⟩
  subst hWn
  have hbb := HG.out
  have Bv_6 := Lib.hid (blk_grown Bv_5.out HG.out (fun e => by have h9 := hrw2 _ e; omega))
  have Bx_6 := Lib.hid (blk_grown Bx_5.out HG.out (fun e => by have h9 := hrw2 _ e; omega))
  have Bg_6 := Lib.hid (blk_grown Bg_5.out HG.out (fun e => by have h9 := hrw2 _ e; omega))
  have Ba_6 := Lib.hid (blk_grown Ba_5.out HG.out (fun e => by have h9 := hrw2 _ e; omega))
  have Bb_6 := Lib.hid (blk_grown Bb_5.out HG.out (fun e => by have h9 := hrw2 _ e; omega))
  have Vv_6 := Lib.hid (Vv_5.out.ext_to (fun _ h => h) (fun z hz hlt => HG.out.block z hlt (fun e => by have h9 := hrw2 z e.symm; have h8 : _ ∧ _ := hz; have h8a := h8.1; have h8b := h8.2; omega)))
  have Vx_6 := Lib.hid (Vx_5.out.ext_to (fun _ h => h) (fun z hz hlt => HG.out.block z hlt (fun e => by have h9 := hrw2 z e.symm; have h8 : _ ∧ _ := hz; have h8a := h8.1; have h8b := h8.2; omega)))
  have Vg_6 := Lib.hid (Vg_5.out.ext_to (fun _ h => h) (fun z hz hlt => HG.out.block z hlt (fun e => by have h9 := hrw2 z e.symm; have h8 : _ ∧ _ := hz; have h8a := h8.1; have h8b := h8.2; omega)))
  have BB_6 := Lib.hid (below_grown BB_5.out HG.out BB_5.out.size (fun z hz => by have h9 := hrw2 z hz; omega))
  have hsz_6 := BB_6.out.size
  have hsa_6 : W5.heap.size ≤ W6.heap.size := HG.out.size
  have HOK3c := Lib.hid (HOK3b.out.grown HG.out (fun z hz e => hne23 z e (by rw [hz]; rfl)))
  clear hbb hro hlt hj c4 hlb HG
  have hbb := Bb_6.out
  have c5 := hbb.cell (i := 5) rfl
  have hlb := hbb.lt
  clear hbb
  go_wp2
  clear c5 hlb
  go_loopw [60] (fun i wr => ∃ j : Nat, i = .int .i64 (j : Int) ∧ j ≤ fv.length ∧ W6.grownBy wr (Value.slice pfb fv.length cfb).ownBlock ∧ RowOk pfb (fv.length * 7) wr) (fun i _ => fv.length - (intOf i).toNat)
  case atStart => exact ⟨0, rfl, Nat.zero_le _, ⟨rfl, rfl, rfl, Nat.le_refl _, fun _ _ _ => rfl⟩, HOK3c.out⟩
  case round =>
  obtain ⟨j, rfl, hj, hg, hro⟩ := hrel
  have HG := Lib.hid hg
  have hbb := blk_grown Bb_6.out hg (fun e => by have h9 := hrw3 _ e; omega)
  have c5 := hbb.cell (i := 5) rfl
  have hlb := hbb.lt
  clear hbb hg
  by_cases hlt : j < fv.length
  · obtain ⟨gr, cs, t, hp, hgb, hN⟩ := hro.get (by omega)
    subst hp
    obtain ⟨v0, x0⟩ : ∃ v, wr.cell? ⟨gr, j * 7 + 1, none⟩ = some v := ⟨_, hgb.cell (i := j * 7 + 1) (List.getElem?_toArray.trans (List.getElem?_eq_getElem (by omega)))⟩
    have y0 := hgb.frozen (j * 7 + 1)
    obtain ⟨v1, x1⟩ : ∃ v, wr.cell? ⟨gr, j * 7 + 2, none⟩ = some v := ⟨_, hgb.cell (i := j * 7 + 2) (List.getElem?_toArray.trans (List.getElem?_eq_getElem (by omega)))⟩
    have y1 := hgb.frozen (j * 7 + 2)
    obtain ⟨v2, x2⟩ : ∃ v, wr.cell? ⟨gr, j * 7 + 3, none⟩ = some v := ⟨_, hgb.cell (i := j * 7 + 3) (List.getElem?_toArray.trans (List.getElem?_eq_getElem (by omega)))⟩
    have y2 := hgb.frozen (j * 7 + 3)
    obtain ⟨v3, x3⟩ : ∃ v, wr.cell? ⟨gr, j * 7 + 4, none⟩ = some v := ⟨_, hgb.cell (i := j * 7 + 4) (List.getElem?_toArray.trans (List.getElem?_eq_getElem (by omega)))⟩
    have y3 := hgb.frozen (j * 7 + 4)
    obtain ⟨v4, x4⟩ : ∃ v, wr.cell? ⟨gr, j * 7 + 5, none⟩ = some v := ⟨_, hgb.cell (i := j * 7 + 5) (List.getElem?_toArray.trans (List.getElem?_eq_getElem (by omega)))⟩
    have y4 := hgb.frozen (j * 7 + 5)
    obtain ⟨v5, x5⟩ : ∃ v, wr.cell? ⟨gr, j * 7 + 6, none⟩ = some v := ⟨_, hgb.cell (i := j * 7 + 6) (List.getElem?_toArray.trans (List.getElem?_eq_getElem (by omega)))⟩
    have y5 := hgb.frozen (j * 7 + 6)
    have hlg := hgb.lt
    have HF := Lib.hid (And.intro (grown_setCells HG.out (j * 7 + 1) [.int .u8 2, .bool false, .int .i64 9, .string ⟨#[]⟩, .slice none 0 0, .slice none 0 0]) (rowOk_set (o := j * 7 + 1) (vs := [.int .u8 2, .bool false, .int .i64 9, .string ⟨#[]⟩, .slice none 0 0, .slice none 0 0]) hgb hN))
    clear hgb hro hN
    go_wp2
    clear x0 y0 x1 y1 x2 y2 x3 y3 x4 y4 x5 y5
    go_roundw
    case rel => exact ⟨j + 1, by go_num, hlt, HF.out.1, HF.out.2⟩
    case measure => simp [intOf]; omega
  obtain rfl : j = fv.length := by omega
  obtain ⟨W7, hWn⟩ : ∃ W, W = wr := ⟨_, rfl⟩
  subst hWn
  have hbb := HG.out
  have Bv_7 := Lib.hid (blk_grown Bv_6.out HG.out (fun e => by have h9 := hrw3 _ e; omega))
  have Bx_7 := Lib.hid (blk_grown Bx_6.out HG.out (fun e => by have h9 := hrw3 _ e; omega))
  have Bg_7 := Lib.hid (blk_grown Bg_6.out HG.out (fun e => by have h9 := hrw3 _ e; omega))
  have Ba_7 := Lib.hid (blk_grown Ba_6.out HG.out (fun e => by have h9 := hrw3 _ e; omega))
  have Bb_7 := Lib.hid (blk_grown Bb_6.out HG.out (fun e => by have h9 := hrw3 _ e; omega))
  have Vv_7 := Lib.hid (Vv_6.out.ext_to (fun _ h => h) (fun z hz hlt => HG.out.block z hlt (fun e => by have h9 := hrw3 z e.symm; have h8 : _ ∧ _ := hz; have h8a := h8.1; have h8b := h8.2; omega)))
  have Vx_7 := Lib.hid (Vx_6.out.ext_to (fun _ h => h) (fun z hz hlt => HG.out.block z hlt (fun e => by have h9 := hrw3 z e.symm; have h8 : _ ∧ _ := hz; have h8a := h8.1; have h8b := h8.2; omega)))
  have Vg_7 := Lib.hid (Vg_6.out.ext_to (fun _ h => h) (fun z hz hlt => HG.out.block z hlt (fun e => by have h9 := hrw3 z e.symm; have h8 : _ ∧ _ := hz; have h8a := h8.1; have h8b := h8.2; omega)))
  have BB_7 := Lib.hid (below_grown BB_6.out HG.out BB_6.out.size (fun z hz => by have h9 := hrw3 z hz; omega))
  have hsz_7 := BB_7.out.size
  have hsa_7 : W6.heap.size ≤ W7.heap.size := HG.out.size
  clear hbb hro hlt hj c5 hlb HG
  have hg := Bg_7.out
  have cg0 := hg.cell (i := 0) rfl
  have cg1 := hg.cell (i := 1) rfl
  have cg2 := hg.cell (i := 2) rfl
  have cg3 := hg.cell (i := 3) rfl
  have cg4 := hg.cell (i := 4) rfl
  have cg5 := hg.cell (i := 5) rfl
  have hlg := hg.lt
  clear hg
  have hc := get_nil kv bv nv sv lv fv _ _ _ Vg_7.out
  have HC := Lib.hid hc
  clear hc
  go_wp2_with fail
  go_at_call 16
  refine HC.out.mono ?_
  rintro e' wA7 ⟨cc', rfl, hvn, _, _, hb⟩
  obtain ⟨plc, clc, pfc, cfc, rfl, _⟩ := hasVal_mk.1 hvn
  have hbA := hb
  clear cg0 cg1 cg2 cg3 cg4 cg5 hlg
  go_upto_region 22 with (fail)
  generalize hWB : World.alloc _ _ = W8
  have hdn : IsBlk W8 wA7.heap.size #[.int .u8 (kv : Int), .bool bv, .int .i64 nv, .string (bs sv), .slice plc lv.length clc, .slice pfc fv.length cfc] 26 := by rw [← hWB]; exact IsBlk.new _ _ _
  have hbn : Below wA7.heap.size wA7 W8 := by rw [← hWB]; exact (Below.refl _ _).alloc (Nat.le_refl _) _
  have hsn_8 : W8.heap.size ≤ wA7.heap.size + 1 ∧ wA7.heap.size + 1 ≤ W8.heap.size := by rw [← hWB]; simp
  have hsa_8 : W7.heap.size ≤ wA7.heap.size := hbA.size
  have hbW := below_ext hbA hbn
  have Bc_8 := Lib.hid hdn
  have hvl : HasVal (fun z => W7.heap.size ≤ z ∧ z < wA7.heap.size) W8 _ _ := (relV.lt hvn).ext_to (fun z hz => ⟨Nat.le_trans (by first | exact Nat.le_refl _ | (simp; done) | (simp; omega)) hz.1, hz.2⟩) (fun z hz _ => hbn.block z hz.2)
  have Vc_8 := Lib.hid hvl
  have Bv_8 := Lib.hid (Bv_7.out.ext hbW)
  have Bx_8 := Lib.hid (Bx_7.out.ext hbW)
  have Bg_8 := Lib.hid (Bg_7.out.ext hbW)
  have Ba_8 := Lib.hid (Ba_7.out.ext hbW)
  have Bb_8 := Lib.hid (Bb_7.out.ext hbW)
  have Vv_8 := Lib.hid (Vv_7.out.ext hbW)
  have Vx_8 := Lib.hid (Vx_7.out.ext hbW)
  have Vg_8 := Lib.hid (Vg_7.out.ext hbW)
  have BB_8 := Lib.hid (BB_7.out.trans (hbW.mono BB_7.out.size))
  have hsz_8 := BB_8.out.size
  clear Bv_7 Bx_7 Bg_7 Ba_7 Bb_7 Vv_7 Vx_7 Vg_7
  clear hWB hdn hbn hbW hbA hb hvn hvl HC
  have hg := Bg_8.out
  have cg0 := hg.cell (i := 0) rfl
  have cg1 := hg.cell (i := 1) rfl
  have cg2 := hg.cell (i := 2) rfl
  have cg3 := hg.cell (i := 3) rfl
  have cg4 := hg.cell (i := 4) rfl
  have cg5 := hg.cell (i := 5) rfl
  have hlg := hg.lt
  have hv := Bv_8.out
  have cv0 := hv.cell (i := 0) rfl
  have cv1 := hv.cell (i := 1) rfl
  have cv2 := hv.cell (i := 2) rfl
  have cv3 := hv.cell (i := 3) rfl
  have cv4 := hv.cell (i := 4) rfl
  have cv5 := hv.cell (i := 5) rfl
  have hlv := hv.lt
  clear hg hv
  have hc := ref_same_any (.mk kv bv nv sv lv fv) (.mk kv bv nv sv lv fv) _ _ _ _ _ Vg_8.out Vv_8.out
  rw [same_refl] at hc
  have HC := Lib.hid hc
  clear hc
  go_wp2_with fail
  go_at_call 17
  refine HC.out.mono ?_
  rintro e' W9 ⟨rfl, hb⟩
  clear cg0 cg1 cg2 cg3 cg4 cg5 cv0 cv1 cv2 cv3 cv4 cv5 hlg hlv
  have hbA := hb
  have hsa_9 : W8.heap.size ≤ W9.heap.size := hbA.size
  have Bv_9 := Lib.hid (Bv_8.out.ext hbA)
  have Bx_9 := Lib.hid (Bx_8.out.ext hbA)
  have Bg_9 := Lib.hid (Bg_8.out.ext hbA)
  have Ba_9 := Lib.hid (Ba_8.out.ext hbA)
  have Bb_9 := Lib.hid (Bb_8.out.ext hbA)
  have Bc_9 := Lib.hid (Bc_8.out.ext hbA)
  have Vv_9 := Lib.hid (Vv_8.out.ext hbA)
  have Vx_9 := Lib.hid (Vx_8.out.ext hbA)
  have Vg_9 := Lib.hid (Vg_8.out.ext hbA)
  have Vc_9 := Lib.hid (Vc_8.out.ext hbA)
  have BB_9 := Lib.hid (BB_8.out.trans (hbA.mono BB_8.out.size))
  have hsz_9 := BB_9.out.size
  clear Bv_8 Bx_8 Bg_8 Ba_8 Bb_8 Bc_8 Vv_8 Vx_8 Vg_8 Vc_8
  clear hb hbA HC
  have hc := Bc_9.out
  have cc0 := hc.cell (i := 0) rfl
  have cc1 := hc.cell (i := 1) rfl
  have cc2 := hc.cell (i := 2) rfl
  have cc3 := hc.cell (i := 3) rfl
  have cc4 := hc.cell (i := 4) rfl
  have cc5 := hc.cell (i := 5) rfl
  have hlc := hc.lt
  have hv := Bv_9.out
  have cv0 := hv.cell (i := 0) rfl
  have cv1 := hv.cell (i := 1) rfl
  have cv2 := hv.cell (i := 2) rfl
  have cv3 := hv.cell (i := 3) rfl
  have cv4 := hv.cell (i := 4) rfl
  have cv5 := hv.cell (i := 5) rfl
  have hlv := hv.lt
  clear hc hv
  have hc := ref_same_any (.mk kv bv nv sv lv fv) (.mk kv bv nv sv lv fv) _ _ _ _ _ Vc_9.out Vv_9.out
  rw [same_refl] at hc
  have HC := Lib.hid hc
  clear hc
  go_wp2_with fail
  go_at_call 17
  refine HC.out.mono ?_
  rintro e' W10 ⟨rfl, hb⟩
  clear cc0 cc1 cc2 cc3 cc4 cc5 cv0 cv1 cv2 cv3 cv4 cv5 hlc hlv
  have hbA := hb
  have hsa_10 : W9.heap.size ≤ W10.heap.size := hbA.size
  have Bv_10 := Lib.hid (Bv_9.out.ext hbA)
  have Bx_10 := Lib.hid (Bx_9.out.ext hbA)
  have Bg_10 := Lib.hid (Bg_9.out.ext hbA)
  have Ba_10 := Lib.hid (Ba_9.out.ext hbA)
  have Bb_10 := Lib.hid (Bb_9.out.ext hbA)
  have Bc_10 := Lib.hid (Bc_9.out.ext hbA)
  have Vv_10 := Lib.hid (Vv_9.out.ext hbA)
  have Vx_10 := Lib.hid (Vx_9.out.ext hbA)
  have Vg_10 := Lib.hid (Vg_9.out.ext hbA)
  have Vc_10 := Lib.hid (Vc_9.out.ext hbA)
  have BB_10 := Lib.hid (BB_9.out.trans (hbA.mono BB_9.out.size))
  have hsz_10 := BB_10.out.size
  clear Bv_9 Bx_9 Bg_9 Ba_9 Bb_9 Bc_9 Vv_9 Vx_9 Vg_9 Vc_9
  clear hb hbA HC
  go_wp2
  go_ret
  exact ⟨rfl, BB_10.out⟩
end Go.Proofs.YthcojmpigdojoaaDoor
