/- ValueInside: a list of a value is right just if the value is, and it is not too deep; a path leads into it. Conditions: value and path lie in memory, the path is no longer than 2^20 texts of 2^20 bytes; the tables and the two errors read as the texts lay them. -/
import Derived.Test.YthcojmpigdojoaaDoorVLives
import Derived.Test.YthcojmpigdojoaaDoorInsP
import Derived.Test.YthcojmpigdojoaaDoorSameV
import Derived.Test.YthcojmpigdojoaaDoorPushTxt
set_option linter.unusedVariables false
set_option linter.unusedSimpArgs false
namespace Go.Proofs.YthcojmpigdojoaaDoor
open Go Go.RowKit Go.BigFrame
set_option maxRecDepth 100000

theorem own_texts {w : World} {base n : Nat} {l : List (List UInt8)} {g c : Nat} (h : w.ownsRow base 9 1 (.slice (some ⟨g, 0, none⟩) n c) n (l.map fun s => Value.string (bs s))) : HasS (fun _ => True) w (some ⟨g, 0, none⟩) l := fun i hi => by
  have hn : l.length = n := by have := h.1; simpa using this
  obtain ⟨g1, c1, hv, _, hg, _, hc⟩ := own_open h (by omega)
  obtain ⟨e1, _⟩ := Value.slice.inj hv
  obtain rfl : g = g1 := by simpa using e1
  refine ⟨g, 0, rfl, trivial, hg, ?_⟩
  rw [Nat.zero_add]
  exact hc i _ (by omega) (by rw [List.getElem?_map, List.getElem?_eq_getElem hi]; rfl)
set_option maxHeartbeats 8000000 in
theorem inside_any (A : DVal) (path : List (List UInt8)) (S S2 : Nat → Prop) (ca : List Value) (pp : Option Addr) (pc : Nat) (w : World) (hA : HasVal S w A ca) (hp : HasS S2 w pp path) (hnone : pp = none → pc = 0) (hpn : path.length ≤ 1048576) (hpt : ∀ x ∈ path, x.length ≤ 1048576) (hN : NumT w) (hU : U8T w) :
    Calls Tryd.prog 7 #[.agg ca.toArray, .slice pp path.length pc] w fun e' w' => e' = .returned (.bool true) ∧ Below w.heap.size w w' := by
  have HA := Lib.hid hA
  have HP := Lib.hid hp
  have HNO := Lib.hid hnone
  have HPT := Lib.hid hpt
  have HNT := Lib.hid hN
  have HLIV := Lib.hid (fun w' (hb : Below w.heap.size w w') => vlives_any w' (hN.ext hb) (U8T_ext hU hb))
  have HCK := Lib.hid (fun w' (hb : Below w.heap.size w w') => check_any A _ _ w' (hA.ext hb) (U8T_ext hU hb))
  have HCL := Lib.hid (fun (v : DVal) (S : Nat → Prop) cs w' (h : HasVal S w' v cs) (hb : Below w.heap.size w w') => check_any v _ _ w' h (U8T_ext hU hb))
  have HGA := Lib.hid (fun w' (hb : Below w.heap.size w w') => get_any A path S S2 ca pp pc w' (hA.ext hb) (hp.ext hb) (by omega) (fun x hx => by have := hpt x hx; omega) (hN.ext hb))
  have hchk := chk_both A
  have HL1 := Lib.hid (chk_list1 A)
  have HGL := Lib.hid (get_list1 A path)
  obtain ⟨da, hda⟩ : ∃ d, d = checkV 0 A := ⟨_, rfl⟩
  obtain ⟨db, hdb⟩ : ∃ d, d = checkV 1 A := ⟨_, rfl⟩
  obtain ⟨r, hr⟩ : ∃ r, r = getV A path := ⟨_, rfl⟩
  obtain ⟨q, hq⟩ : ∃ q, q = r.isSome := ⟨_, rfl⟩
  obtain ⟨Z, hZ⟩ : ∃ Z, Z = r.getD .zero := ⟨_, rfl⟩
  rw [← hda] at HCK
  rw [← hda, ← hdb] at hchk
  rw [← hdb] at HL1
  rw [← hr] at HGL HGA
  unfold GetPost at HGA
  rw [← hq, ← hZ] at HGA
  have HCHK := Lib.hid hchk
  have HQ := Lib.hid hq
  have HZ := Lib.hid hZ
  obtain ⟨pn, hpn'⟩ : ∃ pn, pn = path.length := ⟨_, rfl⟩
  have HPN := Lib.hid hpn'
  rw [← hpn'] at hpn ⊢
  rw [← hpn'] at HGA
  obtain ⟨k1, b1, n1, s1, l1, f1⟩ := A
  obtain ⟨pl1, cl1, pf1, cf1, rfl, _⟩ := hasVal_mk.1 hA
  obtain ⟨kz, bz, nz, sz, lz, fz⟩ := Z
  clear hA hp hN hU hda hdb hr hq hZ hpt hnone hchk hpn'
  show Calls Tryd.prog 7 #[.agg #[.int .u8 (k1 : Int), .bool b1, .int .i64 n1, .string (bs s1), .slice pl1 l1.length cl1, .slice pf1 f1.length cf1], .slice pp pn pc] w _
  go_enter Tryd.func7, Tryd.ntmps7
  go_upto_region 1 with (fail)
  generalize hW0 : World.alloc w _ = W0
  have hd1 : IsBlk W0 w.heap.size #[.int .u8 (k1 : Int), .bool b1, .int .i64 n1, .string (bs s1), .slice pl1 l1.length cl1, .slice pf1 f1.length cf1] 26 := by rw [← hW0]; exact IsBlk.new _ _ _
  have hb0 : Below w.heap.size w W0 := by rw [← hW0]; exact (Below.refl _ _).alloc (Nat.le_refl _) _
  have hz0 := hb0.size
  have HD1 := Lib.hid hd1
  have HB0 := Lib.hid hb0
  clear hW0 hd1 hb0
  go_wp2_with fail
  go_at_call 11
  refine (HLIV.out W0 HB0.out).mono ?_
  rintro e' w1 ⟨rfl, hb⟩
  have HB1 := Lib.hid (HB0.out.trans (hb.mono hz0))
  have hz1 := HB1.out.size
  have hd1 := HD1.out.ext hb
  have HE1 := Lib.hid hd1
  have x0 := hd1.cell (i := 0) rfl
  have x1 := hd1.cell (i := 1) rfl
  have x2 := hd1.cell (i := 2) rfl
  have x3 := hd1.cell (i := 3) rfl
  have x4 := hd1.cell (i := 4) rfl
  have x5 := hd1.cell (i := 5) rfl
  have hl1 := hd1.lt
  clear hb hd1 HLIV HD1
  have hg2 : IsBlk (w1.alloc (.cells #[.int .u8 (k1 : Int), .bool b1, .int .i64 n1, .string (bs s1), .slice pl1 l1.length cl1, .slice pf1 f1.length cf1] 26)) w1.heap.size ([[.int .u8 (k1 : Int), .bool b1, .int .i64 n1, .string (bs s1), .slice pl1 l1.length cl1, .slice pf1 f1.length cf1]] : List (List Value)).flatten.toArray 26 := IsBlk.new _ _ _
  have hb2 : Below w1.heap.size w1 (w1.alloc (.cells #[.int .u8 (k1 : Int), .bool b1, .int .i64 n1, .string (bs s1), .slice pl1 l1.length cl1, .slice pf1 f1.length cf1] 26)) := (Below.refl _ _).alloc (Nat.le_refl _) _
  have HG2 := Lib.hid hg2
  have HA2 := Lib.hid hb2
  clear hg2 hb2
  go_wp2_with fail
  go_at_call 13
  refine (list_any _ 1 1 _).mono ?_
  rintro e' w2 ⟨rfl, hb0⟩
  have hb := below_ext HA2.out hb0
  have HB2 := Lib.hid (HB1.out.trans (hb.mono hz1))
  have hz2 := HB2.out.size
  have HE2 := Lib.hid (HE1.out.ext hb)
  have h2 : HasL (fun _ => True) w2 (some ⟨w1.heap.size, 0, none⟩) [.mk k1 b1 n1 s1 l1 f1] := hasL_blk (HG2.out.ext hb0) trivial rfl (fun i hi _ => by
    match i, hi with
    | 0, _ => exact (HA.out.ext HB2.out).ext_to (fun _ _ => trivial) (fun _ _ _ => rfl))
  have HLV := Lib.hid (list_has (c := 1) h2 (by simp) (by simp) (by unfold maxLen; omega))
  clear hb hb0 h2 HG2 HA2 x0 x1 x2 x3 x4 x5 hl1
  go_upto_region 4 with (fail)
  generalize hW3 : World.alloc w2 _ = W3
  have hd3 : IsBlk W3 w2.heap.size #[.int .u8 5, .bool false, .int .i64 0, .string (bs []), .slice (some ⟨w1.heap.size, 0, none⟩) 1 1, .slice none 0 0] 26 := by rw [← hW3]; exact IsBlk.new _ _ _
  have hb3 : Below w2.heap.size w2 W3 := by rw [← hW3]; exact (Below.refl _ _).alloc (Nat.le_refl _) _
  have HB3 := Lib.hid (HB2.out.trans (hb3.mono hz2))
  have hz3 := HB3.out.size
  have hd1 := HE2.out.ext hb3
  have HE3 := Lib.hid hd1
  have HF3 := Lib.hid hd3
  have HLV3 := Lib.hid (HLV.out.ext hb3)
  have x0 := hd1.cell (i := 0) rfl
  have x1 := hd1.cell (i := 1) rfl
  have x2 := hd1.cell (i := 2) rfl
  have x3 := hd1.cell (i := 3) rfl
  have x4 := hd1.cell (i := 4) rfl
  have x5 := hd1.cell (i := 5) rfl
  have y0 := hd3.cell (i := 0) rfl
  have y1 := hd3.cell (i := 1) rfl
  have y2 := hd3.cell (i := 2) rfl
  have y3 := hd3.cell (i := 3) rfl
  have y4 := hd3.cell (i := 4) rfl
  have y5 := hd3.cell (i := 5) rfl
  have hl1 := hd1.lt
  have hl3 := hd3.lt
  clear hd1 hd3 hb3 hW3 HLV
  go_cut [6, 7] (fun u v wx => u = .int .i64 da ∧ v = .int .i64 db ∧ Below W3.heap.size W3 wx)
  case first =>
    refine mixB_start [] (Cls W3) (by kernel_rfl) (Cls.of ((Below.refl _ _).drew)) (fun hCw => ?_)
    refine mixB_flt (by kernel_rfl) [0, 2] 4 _ _ hCw (by kernel_rfl) ?_
    simp only [opsAt, List.map_cons, List.map_nil, List.toList_toArray, List.getD_cons_succ, List.getD_cons_zero]
    unfold Cls
    repeat (go_big_quiet_step (fail))
    refine wpQuiet_nil ?_
    (try rw [← Cls_def])
    refine mixB_ch (i := 1) (fuel := 3) (by kernel_rfl) (by kernel_rfl) ?_
    simp only [opsAt, List.map_cons, List.map_nil, List.toList_toArray, List.getD_cons_succ, List.getD_cons_zero]
    go_wp2_with (go_at_call 18; refine (HCK.out _ (HB3.out.trans (hCw.below.mono hz3))).mono ?_; rintro e' w4 ⟨rfl, hb4⟩)
    refine ThenB.mk (hCw.trans hb4) (fun hCw => ?_)
    refine mixB_ch (i := 3) (fuel := 2) (by kernel_rfl) (by kernel_rfl) ?_
    simp only [opsAt, List.map_cons, List.map_nil, List.toList_toArray, List.getD_cons_succ, List.getD_cons_zero]
    go_wp2_with (go_at_call 18; refine (HCL.out (listV [.mk k1 b1 n1 s1 l1 f1]) _ _ _ (HLV3.out.ext hCw.below) (HB3.out.trans (hCw.below.mono hz3))).mono ?_; rintro e' w5 ⟨he5, hb5⟩; rw [show checkV 0 (listV [.mk k1 b1 n1 s1 l1 f1]) = db from HL1.out] at he5; subst he5)
    refine ThenB.mk (hCw.trans hb5) (fun hCw => ?_)
    refine mixB_flt (by kernel_rfl) [4, 5] 0 _ _ hCw (by kernel_rfl) ?_
    simp only [opsAt, List.map_cons, List.map_nil, List.toList_toArray, List.getD_cons_succ, List.getD_cons_zero]
    unfold Cls
    repeat (go_big_quiet_step (fail))
    refine wpQuiet_nil ?_
    (try rw [← Cls_def])
    refine mixB_end [] (by kernel_rfl) ?_
    refine wpList_nil ?_
    refine Calm.normal ?_
    go_wp2
    go_meet
    exact ⟨rfl, rfl, hCw.below⟩
  case rest =>
  obtain ⟨rfl, rfl, hb4⟩ := hcut
  have HB4 := Lib.hid (HB3.out.trans (hb4.mono hz3))
  have hz4 := HB4.out.size
  have hd1 := HE3.out.ext hb4
  have HE4 := Lib.hid hd1
  have HF4 := Lib.hid (HF3.out.ext hb4)
  have HLV4 := Lib.hid (HLV3.out.ext hb4)
  have hz34 := hb4.size
  clear x0 x1 x2 x3 x4 x5 y0 y1 y2 y3 y4 y5 hl1 hl3 hb4
  have x0 := hd1.cell (i := 0) rfl
  have x1 := hd1.cell (i := 1) rfl
  have x2 := hd1.cell (i := 2) rfl
  have x3 := hd1.cell (i := 3) rfl
  have x4 := hd1.cell (i := 4) rfl
  have x5 := hd1.cell (i := 5) rfl
  have hl1 := hd1.lt
  clear hd1 HCK HCL
  go_upto_region 5 with (fail)
  go_cut [38] (fun u wx => u = .bool false ∧ wx = wc)
  case first =>
    by_cases h0 : da = 0
    · rcases HCHK.out.2 h0 with h1 | h1
      · subst h0
        subst h1
        go_wp2
        go_meet
        exact ⟨rfl, rfl⟩
      · subst h0
        subst h1
        go_wp2
        go_meet
        exact ⟨rfl, rfl⟩
    · have h1 := HCHK.out.1 h0
      have a1 : (da != 0) = true := by simpa using h0
      have a2 : (da == 0) = false := by simpa using h0
      have a3 : (db == 0) = false := by simpa using h1
      go_wp2
      go_meet
      exact ⟨rfl, rfl⟩
  case rest =>
  obtain ⟨rfl, rfl⟩ := hcut
  go_wp2_with fail
  go_at_call 16
  refine (HGA.out _ HB4.out).mono ?_
  rintro e' w5 ⟨cz, rfl, hvz, hb5⟩
  obtain ⟨plz, clz, pfz, cfz, rfl, _⟩ := hasVal_mk.1 hvz
  have HB5 := Lib.hid (HB4.out.trans (hb5.mono hz4))
  have hz5 := HB5.out.size
  have hz45 := hb5.size
  have HVZ := Lib.hid hvz
  have HF5 := Lib.hid (HF4.out.ext hb5)
  have HLV5 := Lib.hid (HLV4.out.ext hb5)
  clear x0 x1 x2 x3 x4 x5 hl1 hb5 hvz
  go_upto_region 8 with (fail)
  generalize hW6 : World.alloc _ _ = W6
  have hd8 : IsBlk W6 w5.heap.size #[.int .u8 (kz : Int), .bool bz, .int .i64 nz, .string (bs sz), .slice plz lz.length clz, .slice pfz fz.length cfz] 26 := by rw [← hW6]; exact IsBlk.new _ _ _
  have hb6 : Below w5.heap.size w5 W6 := by rw [← hW6]; exact (Below.refl _ _).alloc (Nat.le_refl _) _
  have HB6 := Lib.hid (HB5.out.trans (hb6.mono hz5))
  have hz6 := HB6.out.size
  have HVZ6 := Lib.hid (HVZ.out.ext hb6)
  have hd3 := HF5.out.ext hb6
  have HD8 := Lib.hid hd8
  have y0 := hd3.cell (i := 0) rfl
  have y1 := hd3.cell (i := 1) rfl
  have y2 := hd3.cell (i := 2) rfl
  have y3 := hd3.cell (i := 3) rfl
  have y4 := hd3.cell (i := 4) rfl
  have y5 := hd3.cell (i := 5) rfl
  have hl3 := hd3.lt
  have hl8 := hd8.lt
  have hgl : ∀ w', Below W6.heap.size W6 w' → ∀ g c, w'.ownsRow W6.heap.size 9 1 (.slice (some ⟨g, 0, none⟩) (pn + 1) c) (pn + 1) (([48] :: path).map fun s => Value.string (bs s)) →
      Calls Tryd.prog 16 #[.agg #[.int .u8 5, .bool false, .int .i64 0, .string (bs []), .slice (some ⟨w1.heap.size, 0, none⟩) 1 1, .slice none 0 0], .slice (some ⟨g, 0, none⟩) (pn + 1) c] w' fun e' w'' => ∃ cs', e' = .returned (.tuple #[.agg cs'.toArray, .bool q]) ∧ HasVal (fun b => w'.heap.size ≤ b) w'' (.mk kz bz nz sz lz fz) cs' ∧ Below w'.heap.size w' w'' := by
    intro w' hb' g c ho
    have hlp : ([48] :: path).length = pn + 1 := by rw [HPN.out]; rfl
    have h := get_any (listV [.mk k1 b1 n1 s1 l1 f1]) ([48] :: path) (fun _ => True) (fun _ => True) [.int .u8 5, .bool false, .int .i64 0, .string (bs []), .slice (some ⟨w1.heap.size, 0, none⟩) 1 1, .slice none 0 0] (some ⟨g, 0, none⟩) c w' ((HLV5.out.ext hb6).ext hb') (own_texts ho) (by omega) (fun x hx => by
      rcases List.mem_cons.1 hx with rfl | hx
      · simp
      · have := HPT.out x hx; omega) ((HNT.out.ext HB6.out).ext (hb'.mono (by omega)))
    rw [hlp, show getV (listV [.mk k1 b1 n1 s1 l1 f1]) ([48] :: path) = r from HGL.out] at h
    unfold GetPost at h
    rw [← HQ.out, ← HZ.out] at h
    exact h
  have HGET := Lib.hid hgl
  have HPW := Lib.hid (HP.out.ext HB6.out)
  clear hgl hW6 hd8 hb6 hd3 HLV5 HVZ HF5 HGA
  go_cut [10, 11] (fun u v wx => ∃ (b10 : Nat) (ply pfy : Option Addr) (cly cfy : Nat), u = .pointer (some ⟨b10, 0, none⟩) ∧ v = .bool q ∧ IsBlk wx b10 #[.int .u8 (kz : Int), .bool bz, .int .i64 nz, .string (bs sz), .slice ply lz.length cly, .slice pfy fz.length cfy] 26 ∧ HasVal (fun _ => True) wx (.mk kz bz nz sz lz fz) [.int .u8 (kz : Int), .bool bz, .int .i64 nz, .string (bs sz), .slice ply lz.length cly, .slice pfy fz.length cfy] ∧ Below W6.heap.size W6 wx)
  case first =>
    refine mixB_start [] (Cls W6) (by kernel_rfl) (Cls.of ((Below.refl _ _).drew)) (fun hCw => ?_)
    refine mixB_flt (by kernel_rfl) [0, 2] 9 _ _ hCw (by kernel_rfl) ?_
    simp only [opsAt, List.map_cons, List.map_nil, List.toList_toArray, List.getD_cons_succ, List.getD_cons_zero]
    unfold Cls
    repeat (go_big_quiet_step (fail))
    refine wpQuiet_nil ?_
    (try rw [← Cls_def])
    refine mixB_br (i := 1) (j := 8) (fuel := 8) (by kernel_rfl) (by kernel_rfl) ?_ ?_
    · simp only [opsAt, List.map_cons, List.map_nil, List.toList_toArray, List.getD_cons_succ, List.getD_cons_zero]
      go_wp2_with (fail)
      refine ThenB.mk (hCw.trans ((Below.refl _ _).alloc (Nat.le_refl _) _)) (fun hCw => ?_)
      refine mixB_br (i := 3) (j := 8) (fuel := 7) (by kernel_rfl) (by kernel_rfl) ?_ ?_
      · simp only [opsAt, List.map_cons, List.map_nil, List.toList_toArray, List.getD_cons_succ, List.getD_cons_zero]
        at_builtin
        refine push_texts W6.heap.size rfl _ _ rfl _ [[48]] (own_lit (g := W6.heap.size) (IsBlk.new _ _ _) (Nat.le_refl _) rfl (by decide)) S2 pp pc path (HPW.out.ext hCw.below) HNO.out rfl (by rw [← HPN.out]; rfl) hCw.below.size (by rw [← HPN.out]; simp; omega) ?_
        intro v3 w3 ho3 hg3
        have hgr3 := below_grown hCw.below hg3 hCw.below.size (fun k hk => by first | (have h : W6.heap.size = k := Option.some.inj hk; omega) | (have h : W6.heap.size + 1 = k := Option.some.inj hk; omega))
        have hs3 := hgr3.size
        obtain ⟨g3, cap3, hv3, _⟩ := own_open ho3 (by simp)
        have hv3' : v3 = .slice (some ⟨g3, 0, none⟩) (pn + 1) cap3 := by rw [hv3, HPN.out]; rfl
        subst hv3'
        have ho3' : w3.ownsRow W6.heap.size 9 1 (.slice (some ⟨g3, 0, none⟩) (pn + 1) cap3) (pn + 1) (([48] :: path).map fun s => Value.string (bs s)) := by rw [HPN.out] at ho3 ⊢; exact ho3
        clear hv3 ho3
        clear hg3
        go_wp2
        simp only [Act.put, List.setIfInBounds_toArray, List.set_cons_succ, List.set_cons_zero]
        refine ThenB.mk (Cls.of hgr3) (fun hCw => ?_)
        refine mixB_br (i := 4) (j := 8) (fuel := 6) (by kernel_rfl) (by kernel_rfl) ?_ ?_
        · simp only [opsAt, List.map_cons, List.map_nil, List.toList_toArray, List.getD_cons_succ, List.getD_cons_zero]
          go_wp2_with (go_at_call 16; go_at_call 16; refine (HGET.out _ hCw.below g3 cap3 ho3').mono ?_; rintro e' w4 ⟨cy, rfl, hvy, hb4⟩; obtain ⟨ply, cly, pfy, cfy, rfl, _⟩ := hasVal_mk.1 hvy; have hC4 := hCw.trans hb4)
          refine ThenB.mk (hC4) (fun hCw => ?_)
          refine mixB_flt (by kernel_rfl) [5, 6, 7] 3 _ _ hCw (by kernel_rfl) ?_
          simp only [opsAt, List.map_cons, List.map_nil, List.toList_toArray, List.getD_cons_succ, List.getD_cons_zero]
          unfold Cls
          repeat (go_big_quiet_step (fail))
          refine wpQuiet_nil ?_
          (try rw [← Cls_def])
          refine mixB_ch (i := 8) (fuel := 2) (by kernel_rfl) (by kernel_rfl) ?_
          simp only [opsAt, List.map_cons, List.map_nil, List.toList_toArray, List.getD_cons_succ, List.getD_cons_zero]
          go_wp2_with (fail)
          refine ThenB.mk (hCw.trans ((Below.refl _ _).alloc (Nat.le_refl _) _)) (fun hCw => ?_)
          refine mixB_ch (i := 9) (fuel := 1) (by kernel_rfl) (by kernel_rfl) ?_
          simp only [opsAt, List.map_cons, List.map_nil, List.toList_toArray, List.getD_cons_succ, List.getD_cons_zero]
          go_wp2_with (fail)
          refine ThenB.mk (Cls.of (hC4.below.alloc hC4.below.size _)) (fun hCw => ?_)
          refine mixB_flt (by kernel_rfl) [10] 0 _ _ hCw (by kernel_rfl) ?_
          simp only [opsAt, List.map_cons, List.map_nil, List.toList_toArray, List.getD_cons_succ, List.getD_cons_zero]
          unfold Cls
          repeat (go_big_quiet_step (fail))
          refine wpQuiet_nil ?_
          (try rw [← Cls_def])
          refine mixB_end [] (by kernel_rfl) ?_
          refine wpList_nil ?_
          refine Calm.normal ?_
          go_wp2
          go_meet
          exact ⟨w4.heap.size, ply, pfy, cly, cfy, rfl, rfl, IsBlk.new _ _ _, (hvy.ext ((Below.refl _ _).alloc (Nat.le_refl _) _)).ext_to (fun _ _ => trivial) (fun _ _ _ => rfl), hC4.below.alloc hC4.below.size _⟩
        · simp only [opsAt, List.map_cons, List.map_nil, List.toList_toArray, List.getD_cons_succ, List.getD_cons_zero]
          go_wp2_with (fail)
          try have hz8 : IsBlk (w3.alloc (.cells ([.int .u8 0, .bool false, .int .i64 0, .string (bs []), .slice none 0 0, .slice none 0 0] : List Value).toArray 26)) w3.heap.size ([.int .u8 0, .bool false, .int .i64 0, .string (bs []), .slice none 0 0, .slice none 0 0] : List Value).toArray 26 := IsBlk.new _ _ _
          refine ThenB.mk (hCw.trans ((Below.refl _ _).alloc (Nat.le_refl _) _)) (fun hCw => ?_)
          refine mixB_ch (i := 4) (fuel := 5) (by kernel_rfl) (by kernel_rfl) ?_
          simp only [opsAt, List.map_cons, List.map_nil, List.toList_toArray, List.getD_cons_succ, List.getD_cons_zero]
          go_wp2_with (go_at_call 16; first | refine (HGET.out _ hCw.below g3 cap3 ho3').mono ?_ | refine (HGET.out _ hCw.below g3 cap3 (own_alloc ho3' _)).mono ?_)
          rintro e' w4 ⟨cy, rfl, hvy, hb4⟩
          obtain ⟨ply, cly, pfy, cfy, rfl, _⟩ := hasVal_mk.1 hvy
          have hC4 := hCw.trans hb4
          have hz8l := hz8.lt
          have hz9 := hz8.ext hb4
          have hz9l := hz9.lt
          have hge4 := hC4.below
          have q0 := hz9.cell (i := 0) rfl
          have q1 := hz9.cell (i := 1) rfl
          have q2 := hz9.cell (i := 2) rfl
          have q3 := hz9.cell (i := 3) rfl
          have q4 := hz9.cell (i := 4) rfl
          have q5 := hz9.cell (i := 5) rfl
          have f0 := hz9.frozen 0
          have f1 := hz9.frozen 1
          have f2 := hz9.frozen 2
          have f3 := hz9.frozen 3
          have f4 := hz9.frozen 4
          have f5 := hz9.frozen 5
          go_wp2
          refine ThenB.mk hC4 (fun hCw => ?_)
          refine mixB_flt (by kernel_rfl) [5, 6, 7] 2 _ _ hCw (by kernel_rfl) ?_
          simp only [opsAt, List.map_cons, List.map_nil, List.toList_toArray, List.getD_cons_succ, List.getD_cons_zero]
          unfold Cls
          repeat (go_big_quiet_step (fail))
          refine wpQuiet_nil ?_
          (try rw [← Cls_def])
          refine mixB_ch (i := 9) (fuel := 1) (by kernel_rfl) (by kernel_rfl) ?_
          simp only [opsAt, List.map_cons, List.map_nil, List.toList_toArray, List.getD_cons_succ, List.getD_cons_zero]
          go_wp2_with (fail)
          refine ThenB.mk (Cls.of (below_setCells (B := W6.heap.size) (w0 := W6) (by omega) [.int .u8 (kz : Int), .bool bz, .int .i64 nz, .string (bs sz), .slice ply lz.length cly, .slice pfy fz.length cfy] 0 w4 hge4)) (fun hCw => ?_)
          refine mixB_flt (by kernel_rfl) [10] 0 _ _ hCw (by kernel_rfl) ?_
          simp only [opsAt, List.map_cons, List.map_nil, List.toList_toArray, List.getD_cons_succ, List.getD_cons_zero]
          unfold Cls
          repeat (go_big_quiet_step (fail))
          refine wpQuiet_nil ?_
          (try rw [← Cls_def])
          refine mixB_end [] (by kernel_rfl) ?_
          refine wpList_nil ?_
          refine Calm.normal ?_
          clear q0 q1 q2 q3 q4 q5 f0 f1 f2 f3 f4 f5
          go_wp2
          go_meet
          exact ⟨_, ply, pfy, cly, cfy, rfl, rfl, blk_setCells [.int .u8 (kz : Int), .bool bz, .int .i64 nz, .string (bs sz), .slice ply lz.length cly, .slice pfy fz.length cfy] 0 w4 _ hz9, hvy.ext_to (fun _ _ => trivial) (fun b hb hlt => other_setCells (Nat.ne_of_gt (Nat.lt_of_lt_of_le hz8l hb)) [.int .u8 (kz : Int), .bool bz, .int .i64 nz, .string (bs sz), .slice ply lz.length cly, .slice pfy fz.length cfy] 0 w4), below_setCells (B := W6.heap.size) (w0 := W6) (by omega) [.int .u8 (kz : Int), .bool bz, .int .i64 nz, .string (bs sz), .slice ply lz.length cly, .slice pfy fz.length cfy] 0 w4 hge4⟩
      · simp only [opsAt, List.map_cons, List.map_nil, List.toList_toArray, List.getD_cons_succ, List.getD_cons_zero]
        go_wp2_with (fail)
        try have hz8 : IsBlk (w3.alloc (.cells ([.int .u8 0, .bool false, .int .i64 0, .string (bs []), .slice none 0 0, .slice none 0 0] : List Value).toArray 26)) w3.heap.size ([.int .u8 0, .bool false, .int .i64 0, .string (bs []), .slice none 0 0, .slice none 0 0] : List Value).toArray 26 := IsBlk.new _ _ _
        refine ThenB.mk (hCw.trans ((Below.refl _ _).alloc (Nat.le_refl _) _)) (fun hCw => ?_)
        refine mixB_ch (i := 3) (fuel := 6) (by kernel_rfl) (by kernel_rfl) ?_
        simp only [opsAt, List.map_cons, List.map_nil, List.toList_toArray, List.getD_cons_succ, List.getD_cons_zero]
        at_builtin
        first | refine push_texts W6.heap.size rfl _ _ rfl _ [[48]] (own_lit (g := W6.heap.size) ((IsBlk.new _ _ _).alloc _) (Nat.le_refl _) rfl (by decide)) S2 pp pc path (HPW.out.ext hCw.below) HNO.out rfl (by rw [← HPN.out]; rfl) hCw.below.size (by rw [← HPN.out]; simp; omega) ?_ | refine push_texts W6.heap.size rfl _ _ rfl _ [[48]] (own_lit (g := W6.heap.size + 1) (IsBlk.new_at (by simp)) (Nat.le_succ _) rfl (by decide)) S2 pp pc path (HPW.out.ext hCw.below) HNO.out rfl (by rw [← HPN.out]; rfl) hCw.below.size (by rw [← HPN.out]; simp; omega) ?_
        intro v3 w3 ho3 hg3
        first | have hz8 : IsBlk w3 (W6.heap.size + 1) ([.int .u8 0, .bool false, .int .i64 0, .string (bs []), .slice none 0 0, .slice none 0 0] : List Value).toArray 26 := blk_grown (IsBlk.drew (IsBlk.new_at (by simp))) hg3 (by intro e; have h : W6.heap.size = W6.heap.size + 1 := Option.some.inj e; omega) | have hz8 : IsBlk w3 W6.heap.size ([.int .u8 0, .bool false, .int .i64 0, .string (bs []), .slice none 0 0, .slice none 0 0] : List Value).toArray 26 := blk_grown (IsBlk.drew ((IsBlk.new _ _ _).alloc _)) hg3 (by intro e; have h : W6.heap.size + 1 = W6.heap.size := Option.some.inj e; omega)
        have hgr3 := below_grown hCw.below hg3 hCw.below.size (fun k hk => by first | (have h : W6.heap.size = k := Option.some.inj hk; omega) | (have h : W6.heap.size + 1 = k := Option.some.inj hk; omega))
        have hs3 := hgr3.size
        obtain ⟨g3, cap3, hv3, _⟩ := own_open ho3 (by simp)
        have hv3' : v3 = .slice (some ⟨g3, 0, none⟩) (pn + 1) cap3 := by rw [hv3, HPN.out]; rfl
        subst hv3'
        have ho3' : w3.ownsRow W6.heap.size 9 1 (.slice (some ⟨g3, 0, none⟩) (pn + 1) cap3) (pn + 1) (([48] :: path).map fun s => Value.string (bs s)) := by rw [HPN.out] at ho3 ⊢; exact ho3
        clear hv3 ho3
        clear hg3
        go_wp2
        simp only [Act.put, List.setIfInBounds_toArray, List.set_cons_succ, List.set_cons_zero]
        refine ThenB.mk (Cls.of hgr3) (fun hCw => ?_)
        refine mixB_ch (i := 4) (fuel := 5) (by kernel_rfl) (by kernel_rfl) ?_
        simp only [opsAt, List.map_cons, List.map_nil, List.toList_toArray, List.getD_cons_succ, List.getD_cons_zero]
        go_wp2_with (go_at_call 16; first | refine (HGET.out _ hCw.below g3 cap3 ho3').mono ?_ | refine (HGET.out _ hCw.below g3 cap3 (own_alloc ho3' _)).mono ?_)
        rintro e' w4 ⟨cy, rfl, hvy, hb4⟩
        obtain ⟨ply, cly, pfy, cfy, rfl, _⟩ := hasVal_mk.1 hvy
        have hC4 := hCw.trans hb4
        have hz8l := hz8.lt
        have hz9 := hz8.ext hb4
        have hz9l := hz9.lt
        have hge4 := hC4.below
        have q0 := hz9.cell (i := 0) rfl
        have q1 := hz9.cell (i := 1) rfl
        have q2 := hz9.cell (i := 2) rfl
        have q3 := hz9.cell (i := 3) rfl
        have q4 := hz9.cell (i := 4) rfl
        have q5 := hz9.cell (i := 5) rfl
        have f0 := hz9.frozen 0
        have f1 := hz9.frozen 1
        have f2 := hz9.frozen 2
        have f3 := hz9.frozen 3
        have f4 := hz9.frozen 4
        have f5 := hz9.frozen 5
        go_wp2
        refine ThenB.mk hC4 (fun hCw => ?_)
        refine mixB_flt (by kernel_rfl) [5, 6, 7] 2 _ _ hCw (by kernel_rfl) ?_
        simp only [opsAt, List.map_cons, List.map_nil, List.toList_toArray, List.getD_cons_succ, List.getD_cons_zero]
        unfold Cls
        repeat (go_big_quiet_step (fail))
        refine wpQuiet_nil ?_
        (try rw [← Cls_def])
        refine mixB_ch (i := 9) (fuel := 1) (by kernel_rfl) (by kernel_rfl) ?_
        simp only [opsAt, List.map_cons, List.map_nil, List.toList_toArray, List.getD_cons_succ, List.getD_cons_zero]
        go_wp2_with (fail)
        refine ThenB.mk (Cls.of (below_setCells (B := W6.heap.size) (w0 := W6) (by omega) [.int .u8 (kz : Int), .bool bz, .int .i64 nz, .string (bs sz), .slice ply lz.length cly, .slice pfy fz.length cfy] 0 w4 hge4)) (fun hCw => ?_)
        refine mixB_flt (by kernel_rfl) [10] 0 _ _ hCw (by kernel_rfl) ?_
        simp only [opsAt, List.map_cons, List.map_nil, List.toList_toArray, List.getD_cons_succ, List.getD_cons_zero]
        unfold Cls
        repeat (go_big_quiet_step (fail))
        refine wpQuiet_nil ?_
        (try rw [← Cls_def])
        refine mixB_end [] (by kernel_rfl) ?_
        refine wpList_nil ?_
        refine Calm.normal ?_
        clear q0 q1 q2 q3 q4 q5 f0 f1 f2 f3 f4 f5
        go_wp2
        go_meet
        exact ⟨_, ply, pfy, cly, cfy, rfl, rfl, blk_setCells [.int .u8 (kz : Int), .bool bz, .int .i64 nz, .string (bs sz), .slice ply lz.length cly, .slice pfy fz.length cfy] 0 w4 _ hz9, hvy.ext_to (fun _ _ => trivial) (fun b hb hlt => other_setCells (Nat.ne_of_gt (Nat.lt_of_lt_of_le hz8l hb)) [.int .u8 (kz : Int), .bool bz, .int .i64 nz, .string (bs sz), .slice ply lz.length cly, .slice pfy fz.length cfy] 0 w4), below_setCells (B := W6.heap.size) (w0 := W6) (by omega) [.int .u8 (kz : Int), .bool bz, .int .i64 nz, .string (bs sz), .slice ply lz.length cly, .slice pfy fz.length cfy] 0 w4 hge4⟩
    · simp only [opsAt, List.map_cons, List.map_nil, List.toList_toArray, List.getD_cons_succ, List.getD_cons_zero]
      go_wp2_with (fail)
      try have hz8 : IsBlk (w3.alloc (.cells ([.int .u8 0, .bool false, .int .i64 0, .string (bs []), .slice none 0 0, .slice none 0 0] : List Value).toArray 26)) w3.heap.size ([.int .u8 0, .bool false, .int .i64 0, .string (bs []), .slice none 0 0, .slice none 0 0] : List Value).toArray 26 := IsBlk.new _ _ _
      refine ThenB.mk (hCw.trans ((Below.refl _ _).alloc (Nat.le_refl _) _)) (fun hCw => ?_)
      refine mixB_ch (i := 1) (fuel := 7) (by kernel_rfl) (by kernel_rfl) ?_
      simp only [opsAt, List.map_cons, List.map_nil, List.toList_toArray, List.getD_cons_succ, List.getD_cons_zero]
      go_wp2_with (fail)
      refine ThenB.mk (hCw.trans ((Below.refl _ _).alloc (Nat.le_refl _) _)) (fun hCw => ?_)
      refine mixB_ch (i := 3) (fuel := 6) (by kernel_rfl) (by kernel_rfl) ?_
      simp only [opsAt, List.map_cons, List.map_nil, List.toList_toArray, List.getD_cons_succ, List.getD_cons_zero]
      at_builtin
      first | refine push_texts W6.heap.size rfl _ _ rfl _ [[48]] (own_lit (g := W6.heap.size) ((IsBlk.new _ _ _).alloc _) (Nat.le_refl _) rfl (by decide)) S2 pp pc path (HPW.out.ext hCw.below) HNO.out rfl (by rw [← HPN.out]; rfl) hCw.below.size (by rw [← HPN.out]; simp; omega) ?_ | refine push_texts W6.heap.size rfl _ _ rfl _ [[48]] (own_lit (g := W6.heap.size + 1) (IsBlk.new_at (by simp)) (Nat.le_succ _) rfl (by decide)) S2 pp pc path (HPW.out.ext hCw.below) HNO.out rfl (by rw [← HPN.out]; rfl) hCw.below.size (by rw [← HPN.out]; simp; omega) ?_
      intro v3 w3 ho3 hg3
      first | have hz8 : IsBlk w3 (W6.heap.size + 1) ([.int .u8 0, .bool false, .int .i64 0, .string (bs []), .slice none 0 0, .slice none 0 0] : List Value).toArray 26 := blk_grown (IsBlk.drew (IsBlk.new_at (by simp))) hg3 (by intro e; have h : W6.heap.size = W6.heap.size + 1 := Option.some.inj e; omega) | have hz8 : IsBlk w3 W6.heap.size ([.int .u8 0, .bool false, .int .i64 0, .string (bs []), .slice none 0 0, .slice none 0 0] : List Value).toArray 26 := blk_grown (IsBlk.drew ((IsBlk.new _ _ _).alloc _)) hg3 (by intro e; have h : W6.heap.size + 1 = W6.heap.size := Option.some.inj e; omega)
      have hgr3 := below_grown hCw.below hg3 hCw.below.size (fun k hk => by first | (have h : W6.heap.size = k := Option.some.inj hk; omega) | (have h : W6.heap.size + 1 = k := Option.some.inj hk; omega))
      have hs3 := hgr3.size
      obtain ⟨g3, cap3, hv3, _⟩ := own_open ho3 (by simp)
      have hv3' : v3 = .slice (some ⟨g3, 0, none⟩) (pn + 1) cap3 := by rw [hv3, HPN.out]; rfl
      subst hv3'
      have ho3' : w3.ownsRow W6.heap.size 9 1 (.slice (some ⟨g3, 0, none⟩) (pn + 1) cap3) (pn + 1) (([48] :: path).map fun s => Value.string (bs s)) := by rw [HPN.out] at ho3 ⊢; exact ho3
      clear hv3 ho3
      clear hg3
      go_wp2
      simp only [Act.put, List.setIfInBounds_toArray, List.set_cons_succ, List.set_cons_zero]
      refine ThenB.mk (Cls.of hgr3) (fun hCw => ?_)
      refine mixB_ch (i := 4) (fuel := 5) (by kernel_rfl) (by kernel_rfl) ?_
      simp only [opsAt, List.map_cons, List.map_nil, List.toList_toArray, List.getD_cons_succ, List.getD_cons_zero]
      go_wp2_with (go_at_call 16; first | refine (HGET.out _ hCw.below g3 cap3 ho3').mono ?_ | refine (HGET.out _ hCw.below g3 cap3 (own_alloc ho3' _)).mono ?_)
      rintro e' w4 ⟨cy, rfl, hvy, hb4⟩
      obtain ⟨ply, cly, pfy, cfy, rfl, _⟩ := hasVal_mk.1 hvy
      have hC4 := hCw.trans hb4
      have hz8l := hz8.lt
      have hz9 := hz8.ext hb4
      have hz9l := hz9.lt
      have hge4 := hC4.below
      have q0 := hz9.cell (i := 0) rfl
      have q1 := hz9.cell (i := 1) rfl
      have q2 := hz9.cell (i := 2) rfl
      have q3 := hz9.cell (i := 3) rfl
      have q4 := hz9.cell (i := 4) rfl
      have q5 := hz9.cell (i := 5) rfl
      have f0 := hz9.frozen 0
      have f1 := hz9.frozen 1
      have f2 := hz9.frozen 2
      have f3 := hz9.frozen 3
      have f4 := hz9.frozen 4
      have f5 := hz9.frozen 5
      go_wp2
      refine ThenB.mk hC4 (fun hCw => ?_)
      refine mixB_flt (by kernel_rfl) [5, 6, 7] 2 _ _ hCw (by kernel_rfl) ?_
      simp only [opsAt, List.map_cons, List.map_nil, List.toList_toArray, List.getD_cons_succ, List.getD_cons_zero]
      unfold Cls
      repeat (go_big_quiet_step (fail))
      refine wpQuiet_nil ?_
      (try rw [← Cls_def])
      refine mixB_ch (i := 9) (fuel := 1) (by kernel_rfl) (by kernel_rfl) ?_
      simp only [opsAt, List.map_cons, List.map_nil, List.toList_toArray, List.getD_cons_succ, List.getD_cons_zero]
      go_wp2_with (fail)
      refine ThenB.mk (Cls.of (below_setCells (B := W6.heap.size) (w0 := W6) (by omega) [.int .u8 (kz : Int), .bool bz, .int .i64 nz, .string (bs sz), .slice ply lz.length cly, .slice pfy fz.length cfy] 0 w4 hge4)) (fun hCw => ?_)
      refine mixB_flt (by kernel_rfl) [10] 0 _ _ hCw (by kernel_rfl) ?_
      simp only [opsAt, List.map_cons, List.map_nil, List.toList_toArray, List.getD_cons_succ, List.getD_cons_zero]
      unfold Cls
      repeat (go_big_quiet_step (fail))
      refine wpQuiet_nil ?_
      (try rw [← Cls_def])
      refine mixB_end [] (by kernel_rfl) ?_
      refine wpList_nil ?_
      refine Calm.normal ?_
      clear q0 q1 q2 q3 q4 q5 f0 f1 f2 f3 f4 f5
      go_wp2
      go_meet
      exact ⟨_, ply, pfy, cly, cfy, rfl, rfl, blk_setCells [.int .u8 (kz : Int), .bool bz, .int .i64 nz, .string (bs sz), .slice ply lz.length cly, .slice pfy fz.length cfy] 0 w4 _ hz9, hvy.ext_to (fun _ _ => trivial) (fun b hb hlt => other_setCells (Nat.ne_of_gt (Nat.lt_of_lt_of_le hz8l hb)) [.int .u8 (kz : Int), .bool bz, .int .i64 nz, .string (bs sz), .slice ply lz.length cly, .slice pfy fz.length cfy] 0 w4), below_setCells (B := W6.heap.size) (w0 := W6) (by omega) [.int .u8 (kz : Int), .bool bz, .int .i64 nz, .string (bs sz), .slice ply lz.length cly, .slice pfy fz.length cfy] 0 w4 hge4⟩
  case rest =>
  obtain ⟨b10, ply, pfy, cly, cfy, rfl, rfl, h10, hv10, hb7⟩ := hcut
  have hd8 := HD8.out.ext hb7
  have HBE := Lib.hid (HB6.out.trans (hb7.mono hz6))
  have HSM := Lib.hid (fun w' (hb : Below wc.heap.size wc w') => sam_any (.mk kz bz nz sz lz fz) (.mk kz bz nz sz lz fz) _ _ _ _ w' ((HVZ6.out.ext hb7).ext hb) (hv10.ext hb))
  have hsv : sameV (.mk kz bz nz sz lz fz) (.mk kz bz nz sz lz fz) = true := (sameV_iff _ _).2 rfl
  have HSV := Lib.hid hsv
  have hze := HBE.out.size
  clear hsv y0 y1 y2 y3 y4 y5 hl3 hl8
  have u0 := hd8.cell (i := 0) rfl
  have u1 := hd8.cell (i := 1) rfl
  have u2 := hd8.cell (i := 2) rfl
  have u3 := hd8.cell (i := 3) rfl
  have u4 := hd8.cell (i := 4) rfl
  have u5 := hd8.cell (i := 5) rfl
  have v0 := h10.cell (i := 0) rfl
  have v1 := h10.cell (i := 1) rfl
  have v2 := h10.cell (i := 2) rfl
  have v3 := h10.cell (i := 3) rfl
  have v4 := h10.cell (i := 4) rfl
  have v5 := h10.cell (i := 5) rfl
  have hl8 := hd8.lt
  have hl10 := h10.lt
  clear hd8 h10 hb7 hv10 HD8 HVZ6
  go_wp2_with fail
  go_at_call 22
  refine (HSM.out _ (Below.refl _ _)).mono ?_
  rintro e' w9 ⟨he, hb9⟩
  rw [HSV.out] at he
  subst he
  have HBZ := Lib.hid (HBE.out.trans (hb9.mono hze))
  clear hb9 u0 u1 u2 u3 u4 u5 v0 v1 v2 v3 v4 v5
  go_wp2
  go_ret
  exact ⟨rfl, HBZ.out⟩
end Go.Proofs.YthcojmpigdojoaaDoor
