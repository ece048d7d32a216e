/- value.Get. Conditions: value and path lie in memory, the path's texts no longer than 2^40 bytes; the tables and the two errors read as the texts lay them. -/
import Derived.Test.YthcojmpigdojoaaDoorOwnV
import Derived.Test.YthcojmpigdojoaaDoorIdx
import Derived.Test.YthcojmpigdojoaaDoorNum
import Derived.Test.YthcojmpigdojoaaDoorTxt
set_option linter.unusedVariables false
set_option linter.unusedSimpArgs false
namespace Go.Proofs.YthcojmpigdojoaaDoor
open Go Go.RowKit Go.BigFrame
set_option maxRecDepth 100000

/-- What a path leads to. -/
def getV : DVal → List (List UInt8) → Option DVal
  | v, [] => some v
  | .mk k b n s l f, p :: ps =>
    if k = 6 then (match idxI (isName p) 0 f with
      | .ofNat i => match f[i]? with
        | some q => getV q.2 ps
        | none => none
      | .negSucc _ => none)
    else if k = 5 then (match placeN p l.length with
      | some i => match l[i]? with
        | some u => getV u ps
        | none => none
      | none => none)
    else none
theorem idxI_bound (P : List UInt8 → Bool) : ∀ (f : List (List UInt8 × DVal)) (i : Nat), idxI P i f = -1 ∨ ∃ k : Nat, idxI P i f = (k : Int) ∧ i ≤ k ∧ k < i + f.length
  | [], i => .inl rfl
  | p :: f, i => by
    rw [idxI]
    by_cases h : P p.1 = true
    · rw [if_pos h]; exact .inr ⟨i, rfl, Nat.le_refl _, by simp⟩
    · rw [if_neg h]
      rcases idxI_bound P f (i + 1) with h | ⟨k, h1, h2, h3⟩
      · exact .inl h
      · exact .inr ⟨k, h1, by omega, by simp; omega⟩
theorem placeN_lt {s : List UInt8} {n i : Nat} (h : placeN s n = some i) : i < n ∧ atoiN s = some (i : Int) ∧ itoaL (i : Int) = s := by
  unfold placeN at h
  cases ha : atoiN s with
  | none => rw [ha] at h; cases h
  | some v =>
    rw [ha] at h
    simp only [] at h
    by_cases hc : 0 ≤ v ∧ v < (n : Int) ∧ itoaL v = s
    · rw [if_pos hc] at h
      obtain rfl := Option.some.inj h
      have : ((v.toNat : Nat) : Int) = v := by omega
      exact ⟨by omega, by rw [this], by rw [this]; exact hc.2.2⟩
    · rw [if_neg hc] at h; cases h
def zeroCs : List Value := [.int .u8 0, .bool false, .int .i64 0, .string (bs []), .slice none 0 0, .slice none 0 0]
/-- What Get answers. -/
def GetPost (r : Option DVal) (w : World) (e' : Ending) (w' : World) : Prop := ∃ cs', e' = .returned (.tuple #[.agg cs'.toArray, .bool r.isSome]) ∧ HasVal (fun b => w.heap.size ≤ b) w' (r.getD .zero) cs' ∧ Below w.heap.size w w'
theorem zero_has (S : Nat → Prop) (w : World) : HasVal S w .zero zeroCs :=
  hasVal_mk.2 ⟨none, 0, none, 0, rfl, ⟨by omega, by omega, by omega, by simp, by simp, by simp, by simp, by unfold maxLen; omega, by simp, by unfold maxLen; omega⟩, fun i hi => by simp at hi, fun i hi => by simp at hi⟩
set_option maxHeartbeats 8000000 in
theorem get_any (v : DVal) (path : List (List UInt8)) (S S2 : Nat → Prop) (cs : List Value) (pp : Option Addr) (pc : Nat) (w : World) (hv : HasVal S w v cs) (hp : HasS S2 w pp path) (hpn : path.length ≤ 1099511627776) (hpt : ∀ x ∈ path, x.length ≤ 1099511627776) (hT : NumT w) :
    Calls Tryd.prog 16 #[.agg cs.toArray, .slice pp path.length pc] w (GetPost (getV v path) w) := by
  have hv2 : HasVal (fun b => b < w.heap.size) w v cs := relV.kept (relV.lt hv) (fun b h => h.2) (fun _ _ _ => rfl)
  obtain ⟨R, hR⟩ : ∃ R, R = getV v path := ⟨_, rfl⟩
  rw [← hR]
  have HR := Lib.hid hR
  have HP := Lib.hid hp
  have HPT := Lib.hid hpt
  have HT := Lib.hid hT
  have HV0 := Lib.hid hv2
  obtain ⟨k0, b0, n0, s0, l0, f0⟩ := v
  obtain ⟨pl0, cl0, pf0, cf0, rfl, _⟩ := hasVal_mk.1 hv
  clear hR hp hpt hT hv hv2
  show Calls Tryd.prog 16 #[.agg #[.int .u8 (k0 : Int), .bool b0, .int .i64 n0, .string (bs s0), .slice pl0 l0.length cl0, .slice pf0 f0.length cf0], .slice pp path.length pc] w _
  go_enter Tryd.func16, Tryd.ntmps16
  go_upto_region 1 with (fail)
  generalize hW0 : World.alloc (World.alloc w _) _ = W0
  have hd1 : IsBlk W0 w.heap.size ([.int .u8 (k0 : Int), .bool b0, .int .i64 n0, .string (bs s0), .slice pl0 l0.length cl0, .slice pf0 f0.length cf0] : List Value).toArray 26 := by rw [← hW0]; exact (IsBlk.new _ _ _).alloc _
  have hd2 : IsBlk W0 (w.heap.size + 1) zeroCs.toArray 26 := by rw [← hW0]; exact IsBlk.new_at (by simp)
  have hbw0 : Below w.heap.size w W0 := by rw [← hW0]; exact ((Below.refl _ _).alloc (Nat.le_refl _) _).alloc (by simp) _
  have hlt1 : w.heap.size < W0.heap.size := hd1.lt
  have hlt2 : w.heap.size + 1 < W0.heap.size := hd2.lt
  have HD1 := Lib.hid hd1
  have HD2 := Lib.hid hd2
  have HB0 := Lib.hid hbw0
  clear hW0 hd1 hd2 hbw0
  go_wp2
  go_loopw [13] (fun i wr => ∃ (j : Nat) (u : DVal) (cu : List Value), i = .int .i64 (j : Int) ∧ j ≤ path.length ∧ IsBlk wr w.heap.size cu.toArray 26 ∧ HasVal (fun b => b < w.heap.size) w u cu ∧ getV u (path.drop j) = R ∧ IsBlk wr (w.heap.size + 1) zeroCs.toArray 26 ∧ Below w.heap.size w wr) (fun i _ => path.length - (intOf i).toNat)
  case atStart => exact ⟨0, .mk k0 b0 n0 s0 l0 f0, _, rfl, Nat.zero_le _, HD1.out, HV0.out, HR.out.symm, HD2.out, HB0.out⟩
  case round =>
  clear HD1 HV0 HR HD2 HB0
  obtain ⟨j, u, cu, rfl, hj, hblk, hval, hrel, hzer, hbw⟩ := hrel
  obtain ⟨k, b, n, s, l, f⟩ := u
  obtain ⟨pl, cl, pf, cf, rfl, hbd, hL, hF⟩ := hasVal_mk.1 hval
  have HBK := Lib.hid hblk
  have HVAL := Lib.hid hval
  have HREL := Lib.hid hrel
  have HZ := Lib.hid hzer
  have HBW := Lib.hid hbw
  have HL := Lib.hid hL
  have HF := Lib.hid hF
  have hszr := hbw.size
  have hlf := hbd.2.2.2.2.2.1
  have hll := hbd.2.2.2.2.1
  have hk256 := hbd.1
  have hlb := hblk.lt
  have hlz := hzer.lt
  have x0 := hblk.cell (i := 0) rfl
  have x1 := hblk.cell (i := 1) rfl
  have x2 := hblk.cell (i := 2) rfl
  have x3 := hblk.cell (i := 3) rfl
  have x4 := hblk.cell (i := 4) rfl
  have x5 := hblk.cell (i := 5) rfl
  clear hblk hval hrel hzer hbw hL hF hbd
  by_cases hlt : j < path.length
  · obtain ⟨gp, op, hpp, _, hgp, hcp⟩ := (HP.out.ext HBW.out) j hlt
    have hpl := HPT.out _ (List.getElem_mem hlt)
    have hdr : path.drop j = path[j] :: path.drop (j + 1) := List.drop_eq_getElem_cons hlt
    generalize path[j] = p at hcp hpl hdr
    have hr1 := HREL.out
    rw [hdr] at hr1
    have HR1 := Lib.hid hr1
    have hps := bs_size p
    subst hpp
    clear hdr hr1 HREL
    by_cases hk6 : k = 6
    · subst hk6
      have HR2 : Hid ((match idxI (isName p) 0 f with
        | .ofNat i => match f[i]? with
          | some q => getV q.2 (path.drop (j + 1))
          | none => none
        | .negSucc _ => none) = R) := Lib.hid (by have h := HR1.out; rw [getV, if_pos rfl] at h; exact h)
      clear HR1
      go_upto_region 7 with (fail)
      refine mixB_start [] (Cls wr) (by kernel_rfl) (Cls.of ((Below.refl _ _).drew)) (fun hCw => ?_)
      refine mixB_flt (by kernel_rfl) [0, 1, 2] 3 _ _ hCw (by kernel_rfl) ?_
      simp only [opsAt, List.map_cons, List.map_nil, List.toList_toArray, List.getD_cons_succ, List.getD_cons_zero]
      unfold Cls
      repeat (go_big_quiet_step (fail))
      refine wpQuiet_nil ?_
      (try rw [← Cls_def])
      refine mixB_ch (i := 3) (fuel := 2) (by kernel_rfl) (by kernel_rfl) ?_
      simp only [opsAt, List.map_cons, List.map_nil, List.toList_toArray, List.getD_cons_succ, List.getD_cons_zero]
      go_wp2_with (go_at_call 31; refine (named_any p _).mono ?_; rintro e' w1 ⟨gn, rfl, hgn, hcn, hb1⟩; have hC1 := hCw.trans hb1)
      refine ThenB.mk (hCw.trans hb1) (fun hCw => ?_)
      refine mixB_ch (i := 4) (fuel := 1) (by kernel_rfl) (by kernel_rfl) ?_
      simp only [opsAt, List.map_cons, List.map_nil, List.toList_toArray, List.getD_cons_succ, List.getD_cons_zero]
      go_wp2_with (go_at_call 30; refine (idx_named p f _ pf cf gn w1 ((HF.out.ext (HBW.out.trans (hC1.below.mono hszr)))) hlf hgn hcn).mono ?_; rintro e' w2 ⟨rfl, hb2⟩)
      refine ThenB.mk (hCw.trans hb2) (fun hCw => ?_)
      refine mixB_flt (by kernel_rfl) [5] 0 _ _ hCw (by kernel_rfl) ?_
      simp only [opsAt, List.map_cons, List.map_nil, List.toList_toArray, List.getD_cons_succ, List.getD_cons_zero]
      unfold Cls
      repeat (go_big_quiet_step (fail))
      refine wpQuiet_nil ?_
      (try rw [← Cls_def])
      refine mixB_end [] (by kernel_rfl) ?_
      refine wpList_nil ?_
      refine Calm.normal ?_
      have hbr2 := hCw.below
      have HBR2 := Lib.hid hbr2
      have HBW2 := Lib.hid (HBW.out.trans (hbr2.mono hszr))
      have hz2 := HZ.out.ext hbr2
      have hbk2 := HBK.out.ext hbr2
      have hs2 := hbr2.size
      clear hCw hC1 hb1 hb2 hgn hcn hcp hbr2 x0 x1 x2 x3 x4 x5
      rcases idxI_bound (isName p) f 0 with hi | ⟨i, hi, _, hil⟩
      · have HRN : Hid (R = none) := Lib.hid (by have h := HR2.out; rw [hi] at h; exact h.symm)
        rw [hi]
        clear hi hbk2
        have z0 := hz2.cell (i := 0) rfl
        have z1 := hz2.cell (i := 1) rfl
        have z2 := hz2.cell (i := 2) rfl
        have z3 := hz2.cell (i := 3) rfl
        have z4 := hz2.cell (i := 4) rfl
        have z5 := hz2.cell (i := 5) rfl
        have y0 := hz2.frozen 0
        have y1 := hz2.frozen 1
        have y2 := hz2.frozen 2
        have y3 := hz2.frozen 3
        have y4 := hz2.frozen 4
        have y5 := hz2.frozen 5
        have hlz3 := hz2.lt
        have hze := And.intro (blk_setCells zeroCs 0 w2 zeroCs hz2) (below_setCells (B := w.heap.size) (w0 := w) (show w.heap.size ≤ w.heap.size + 1 by omega) zeroCs 0 w2 HBW2.out)
        have HZE := Lib.hid hze
        clear hze hz2
        go_wp2
        exact bodyPost_ret (results_ct (p := 4) (u := 5) (ty := 26) Tryd.results16 rfl HZE.out.1 Tryd.underlying26 rfl (by kernel_rfl) rfl) rfl ⟨zeroCs, by rw [HRN.out]; rfl, by rw [HRN.out]; exact zero_has _ _, HZE.out.2⟩
      · rw [Nat.zero_add] at hil
        have hrs : getV f[i].2 (path.drop (j + 1)) = R := by have h := HR2.out; rw [hi] at h; simp only [Int.ofNat_eq_natCast, List.getElem?_eq_getElem hil] at h; exact h
        rw [hi]
        obtain ⟨g1, o1, cs1, hp1, ⟨hx1, hc1⟩, hv1⟩ := HF.out i hil
        generalize f[i] = q at hv1 hc1 hx1 hrs
        obtain ⟨x9, v1⟩ := q
        simp only [] at hv1 hc1 hx1 hrs
        obtain ⟨k1, b1, n1, s1, l1, f1⟩ := v1
        have HV1 := Lib.hid hv1
        obtain ⟨pl1, cl1, pf1, cf1, rfl, _⟩ := hasVal_mk.1 hv1
        have hc2 := hc1.kept (S' := fun _ => True) (w' := w2) (fun _ _ => trivial) (fun z _ hlt => HBW2.out.block z hlt)
        obtain ⟨d0, d1, d2, d3, d4, d5, d6⟩ := hc2.seven
        have hg1 := hc2.2.1
        have HRS := Lib.hid hrs
        clear hv1 hc1 hc2 hx1 hrs hi hz2 hbk2
        subst hp1
        have hbk3 := HBK.out.ext HBR2.out
        have hz3 := HZ.out.ext HBR2.out
        have x0 := hbk3.cell (i := 0) rfl
        have x1 := hbk3.cell (i := 1) rfl
        have x2 := hbk3.cell (i := 2) rfl
        have x3 := hbk3.cell (i := 3) rfl
        have x4 := hbk3.cell (i := 4) rfl
        have x5 := hbk3.cell (i := 5) rfl
        have y0 := hbk3.frozen 0
        have y1 := hbk3.frozen 1
        have y2 := hbk3.frozen 2
        have y3 := hbk3.frozen 3
        have y4 := hbk3.frozen 4
        have y5 := hbk3.frozen 5
        have hlb3 := hbk3.lt
        have hne : w.heap.size + 1 ≠ w.heap.size := by omega
        have HF2 := Lib.hid (And.intro (blk_setCells [.int .u8 (k1 : Int), .bool b1, .int .i64 n1, .string (bs s1), .slice pl1 l1.length cl1, .slice pf1 f1.length cf1] 0 w2 _ hbk3) (And.intro ((other_setCells hne [.int .u8 (k1 : Int), .bool b1, .int .i64 n1, .string (bs s1), .slice pl1 l1.length cl1, .slice pf1 f1.length cf1] 0 w2).trans hz3) (below_setCells (B := w.heap.size) (w0 := w) (Nat.le_refl _) [.int .u8 (k1 : Int), .bool b1, .int .i64 n1, .string (bs s1), .slice pl1 l1.length cl1, .slice pf1 f1.length cf1] 0 w2 HBW2.out)))
        clear hbk3 hz3 hne
        go_wp2
        go_roundw
        case rel => exact ⟨j + 1, .mk k1 b1 n1 s1 l1 f1, _, by go_num, hlt, HF2.out.1, HV1.out, HRS.out, HF2.out.2.1, HF2.out.2.2⟩
        case measure => simp [intOf]; omega
    by_cases hk5 : k = 5
    · subst hk5
      have HR2 : Hid ((match placeN p l.length with
        | some i => match l[i]? with
          | some u => getV u (path.drop (j + 1))
          | none => none
        | none => none) = R) := Lib.hid (by have h := HR1.out; rw [getV, if_neg (by decide), if_pos rfl] at h; exact h)
      clear HR1 hk6
      go_wp2_with fail
      go_at_call 34
      refine (atoi_any p wr hpl (HT.out.ext HBW.out)).mono ?_
      rintro e' w1 ⟨hb1, hor⟩
      have HBR1 := Lib.hid hb1
      have HBW1 := Lib.hid (HBW.out.trans (hb1.mono hszr))
      have hs1 := hb1.size
      have hsw1 := HBW1.out.size
      have hbk1 := HBK.out.ext hb1
      have x4 := hbk1.cell (i := 4) rfl
      have hlb1 := hbk1.lt
      have hz2 := HZ.out.ext hb1
      clear hb1 x0 x1 x2 x3 x5 hbk1 hcp
      rcases hor with ⟨v, ha, rfl⟩ | ⟨ha, v, N, t, rfl⟩
      case inr =>
        have HRN : Hid (R = none) := Lib.hid (by have h := HR2.out; unfold placeN at h; rw [ha] at h; exact h.symm)
        clear ha
        have z0 := hz2.cell (i := 0) rfl
        have z1 := hz2.cell (i := 1) rfl
        have z2 := hz2.cell (i := 2) rfl
        have z3 := hz2.cell (i := 3) rfl
        have z4 := hz2.cell (i := 4) rfl
        have z5 := hz2.cell (i := 5) rfl
        have y0 := hz2.frozen 0
        have y1 := hz2.frozen 1
        have y2 := hz2.frozen 2
        have y3 := hz2.frozen 3
        have y4 := hz2.frozen 4
        have y5 := hz2.frozen 5
        have hlz3 := hz2.lt
        have hze := And.intro (blk_setCells zeroCs 0 w1 zeroCs hz2) (below_setCells (B := w.heap.size) (w0 := w) (show w.heap.size ≤ w.heap.size + 1 by omega) zeroCs 0 w1 HBW1.out)
        have HZE := Lib.hid hze
        clear hze hz2
        go_wp2
        exact bodyPost_ret (results_ct (p := 4) (u := 5) (ty := 26) Tryd.results16 rfl HZE.out.1 Tryd.underlying26 rfl (by kernel_rfl) rfl) rfl ⟨zeroCs, by rw [HRN.out]; rfl, by rw [HRN.out]; exact zero_has _ _, HZE.out.2⟩
      by_cases hv0 : v < 0
      · have hd0 : decide (v < 0) = true := decide_eq_true hv0
        have HRN : Hid (R = none) := Lib.hid (by have h := HR2.out; unfold placeN at h; rw [ha] at h; simp only [] at h; rw [if_neg (by omega)] at h; exact h.symm)
        clear ha
        have z0 := hz2.cell (i := 0) rfl
        have z1 := hz2.cell (i := 1) rfl
        have z2 := hz2.cell (i := 2) rfl
        have z3 := hz2.cell (i := 3) rfl
        have z4 := hz2.cell (i := 4) rfl
        have z5 := hz2.cell (i := 5) rfl
        have y0 := hz2.frozen 0
        have y1 := hz2.frozen 1
        have y2 := hz2.frozen 2
        have y3 := hz2.frozen 3
        have y4 := hz2.frozen 4
        have y5 := hz2.frozen 5
        have hlz3 := hz2.lt
        have hze := And.intro (blk_setCells zeroCs 0 w1 zeroCs hz2) (below_setCells (B := w.heap.size) (w0 := w) (show w.heap.size ≤ w.heap.size + 1 by omega) zeroCs 0 w1 HBW1.out)
        have HZE := Lib.hid hze
        clear hze hz2
        go_wp2
        exact bodyPost_ret (results_ct (p := 4) (u := 5) (ty := 26) Tryd.results16 rfl HZE.out.1 Tryd.underlying26 rfl (by kernel_rfl) rfl) rfl ⟨zeroCs, by rw [HRN.out]; rfl, by rw [HRN.out]; exact zero_has _ _, HZE.out.2⟩
      have hd0 : decide (v < 0) = false := decide_eq_false hv0
      by_cases hvn : (l.length : Int) ≤ v
      · have hdn : decide ((l.length : Int) ≤ v) = true := decide_eq_true hvn
        have HRN : Hid (R = none) := Lib.hid (by have h := HR2.out; unfold placeN at h; rw [ha] at h; simp only [] at h; rw [if_neg (by omega)] at h; exact h.symm)
        clear ha
        have z0 := hz2.cell (i := 0) rfl
        have z1 := hz2.cell (i := 1) rfl
        have z2 := hz2.cell (i := 2) rfl
        have z3 := hz2.cell (i := 3) rfl
        have z4 := hz2.cell (i := 4) rfl
        have z5 := hz2.cell (i := 5) rfl
        have y0 := hz2.frozen 0
        have y1 := hz2.frozen 1
        have y2 := hz2.frozen 2
        have y3 := hz2.frozen 3
        have y4 := hz2.frozen 4
        have y5 := hz2.frozen 5
        have hlz3 := hz2.lt
        have hze := And.intro (blk_setCells zeroCs 0 w1 zeroCs hz2) (below_setCells (B := w.heap.size) (w0 := w) (show w.heap.size ≤ w.heap.size + 1 by omega) zeroCs 0 w1 HBW1.out)
        have HZE := Lib.hid hze
        clear hze hz2
        go_wp2
        exact bodyPost_ret (results_ct (p := 4) (u := 5) (ty := 26) Tryd.results16 rfl HZE.out.1 Tryd.underlying26 rfl (by kernel_rfl) rfl) rfl ⟨zeroCs, by rw [HRN.out]; rfl, by rw [HRN.out]; exact zero_has _ _, HZE.out.2⟩
      have hdn : decide ((l.length : Int) ≤ v) = false := decide_eq_false hvn
      obtain ⟨i, rfl⟩ : ∃ i : Nat, v = (i : Int) := ⟨v.toNat, by omega⟩
      have hil : i < l.length := by omega
      have HAT := Lib.hid ha
      clear ha
      go_wp2_with fail
      go_at_call 35
      refine (itoa_any (i : Int) (by omega) (by omega) w1 (HT.out.ext HBW1.out)).mono ?_
      rintro e' w2 ⟨rfl, hb2⟩
      have HBR2 := Lib.hid (below_ext HBR1.out hb2)
      have HBW2 := Lib.hid (HBW1.out.trans (hb2.mono hsw1))
      have hs2 := hb2.size
      have hz3 := hz2.ext hb2
      clear hb2 x4 hz2
      by_cases hit : itoaL (i : Int) = p
      · have hie : ((bs (itoaL (i : Int))).toList == (bs p).toList) = true := by rw [tl_bs, tl_bs, hit]; simp
        have hrs : getV l[i] (path.drop (j + 1)) = R := by
          have h := HR2.out
          unfold placeN at h
          rw [HAT.out] at h
          simp only [] at h
          rw [if_pos ⟨by omega, by omega, hit⟩] at h
          simp only [Int.toNat_natCast, List.getElem?_eq_getElem hil] at h
          exact h
        have hbk2 := HBK.out.ext HBR2.out
        have x4 := hbk2.cell (i := 4) rfl
        clear hit hz3 hbk2
        obtain ⟨g1, o1, cs1, hp1, hc1, hv1⟩ := HL.out i hil
        generalize l[i] = v1 at hv1 hc1 hrs
        obtain ⟨k1, b1, n1, s1, l1, f1⟩ := v1
        have HV1 := Lib.hid hv1
        obtain ⟨pl1, cl1, pf1, cf1, rfl, _⟩ := hasVal_mk.1 hv1
        have hc2 := hc1.kept (S' := fun _ => True) (w' := w2) (fun _ _ => trivial) (fun z _ hlt => HBW2.out.block z hlt)
        obtain ⟨d0, d1, d2, d3, d4, d5⟩ := hc2.six
        have hg1 := hc2.2.1
        have HRS := Lib.hid hrs
        clear hv1 hc1 hc2 hrs
        subst hp1
        have hbk3 := HBK.out.ext HBR2.out
        have hz3 := HZ.out.ext HBR2.out
        have x0 := hbk3.cell (i := 0) rfl
        have x1 := hbk3.cell (i := 1) rfl
        have x2 := hbk3.cell (i := 2) rfl
        have x3 := hbk3.cell (i := 3) rfl
        have x4 := hbk3.cell (i := 4) rfl
        have x5 := hbk3.cell (i := 5) rfl
        have y0 := hbk3.frozen 0
        have y1 := hbk3.frozen 1
        have y2 := hbk3.frozen 2
        have y3 := hbk3.frozen 3
        have y4 := hbk3.frozen 4
        have y5 := hbk3.frozen 5
        have hlb3 := hbk3.lt
        have hne : w.heap.size + 1 ≠ w.heap.size := by omega
        have HF2 := Lib.hid (And.intro (blk_setCells [.int .u8 (k1 : Int), .bool b1, .int .i64 n1, .string (bs s1), .slice pl1 l1.length cl1, .slice pf1 f1.length cf1] 0 w2 _ hbk3) (And.intro ((other_setCells hne [.int .u8 (k1 : Int), .bool b1, .int .i64 n1, .string (bs s1), .slice pl1 l1.length cl1, .slice pf1 f1.length cf1] 0 w2).trans hz3) (below_setCells (B := w.heap.size) (w0 := w) (Nat.le_refl _) [.int .u8 (k1 : Int), .bool b1, .int .i64 n1, .string (bs s1), .slice pl1 l1.length cl1, .slice pf1 f1.length cf1] 0 w2 HBW2.out)))
        clear hbk3 hz3 hne
        go_wp2
        go_roundw
        case rel => exact ⟨j + 1, .mk k1 b1 n1 s1 l1 f1, _, by go_num, hlt, HF2.out.1, HV1.out, HRS.out, HF2.out.2.1, HF2.out.2.2⟩
        case measure => simp [intOf]; omega
      · have hie : ((bs (itoaL (i : Int))).toList == (bs p).toList) = false := by rw [tl_bs, tl_bs, beq_eq_false_iff_ne]; exact hit
        have HRN : Hid (R = none) := Lib.hid (by have h := HR2.out; unfold placeN at h; rw [HAT.out] at h; simp only [] at h; rw [if_neg (fun hh => hit hh.2.2)] at h; exact h.symm)
        clear hit
        have z0 := hz3.cell (i := 0) rfl
        have z1 := hz3.cell (i := 1) rfl
        have z2 := hz3.cell (i := 2) rfl
        have z3 := hz3.cell (i := 3) rfl
        have z4 := hz3.cell (i := 4) rfl
        have z5 := hz3.cell (i := 5) rfl
        have y0 := hz3.frozen 0
        have y1 := hz3.frozen 1
        have y2 := hz3.frozen 2
        have y3 := hz3.frozen 3
        have y4 := hz3.frozen 4
        have y5 := hz3.frozen 5
        have hlz3 := hz3.lt
        have hze := And.intro (blk_setCells zeroCs 0 w2 zeroCs hz3) (below_setCells (B := w.heap.size) (w0 := w) (show w.heap.size ≤ w.heap.size + 1 by omega) zeroCs 0 w2 HBW2.out)
        have HZE := Lib.hid hze
        clear hze hz3
        go_wp2
        exact bodyPost_ret (results_ct (p := 4) (u := 5) (ty := 26) Tryd.results16 rfl HZE.out.1 Tryd.underlying26 rfl (by kernel_rfl) rfl) rfl ⟨zeroCs, by rw [HRN.out]; rfl, by rw [HRN.out]; exact zero_has _ _, HZE.out.2⟩
    · have hn6 : ((k : Int) == 6) = false := by rw [beq_eq_false_iff_ne]; omega
      have hn5 : ((k : Int) == 5) = false := by rw [beq_eq_false_iff_ne]; omega
      have HRN : Hid (R = none) := Lib.hid (by have h := HR1.out; rw [getV, if_neg hk6, if_neg hk5] at h; exact h.symm)
      have hz2 := HZ.out
      clear hk6 hk5
      have z0 := hz2.cell (i := 0) rfl
      have z1 := hz2.cell (i := 1) rfl
      have z2 := hz2.cell (i := 2) rfl
      have z3 := hz2.cell (i := 3) rfl
      have z4 := hz2.cell (i := 4) rfl
      have z5 := hz2.cell (i := 5) rfl
      have y0 := hz2.frozen 0
      have y1 := hz2.frozen 1
      have y2 := hz2.frozen 2
      have y3 := hz2.frozen 3
      have y4 := hz2.frozen 4
      have y5 := hz2.frozen 5
      have hlz3 := hz2.lt
      have hze := And.intro (blk_setCells zeroCs 0 wr zeroCs hz2) (below_setCells (B := w.heap.size) (w0 := w) (show w.heap.size ≤ w.heap.size + 1 by omega) zeroCs 0 wr HBW.out)
      have HZE := Lib.hid hze
      clear hze hz2
      go_wp2
      exact bodyPost_ret (results_ct (p := 4) (u := 5) (ty := 26) Tryd.results16 rfl HZE.out.1 Tryd.underlying26 rfl (by kernel_rfl) rfl) rfl ⟨zeroCs, by rw [HRN.out]; rfl, by rw [HRN.out]; exact zero_has _ _, HZE.out.2⟩
  · obtain rfl : j = path.length := by omega
    have hR : R = some (.mk k b n s l f) := by
      have h := HREL.out
      rw [List.drop_length, getV] at h
      exact h.symm
    have HRS := Lib.hid hR
    clear hR hlt
    go_wp2_with fail
    go_at_call 29
    refine (own_any (.mk k b n s l f) _ _ wr (HVAL.out.ext HBW.out)).mono ?_
    rintro e' w2 ⟨cs', rfl, hv2, _, hb2⟩
    have hv2' := hv2
    obtain ⟨pl2, cl2, pf2, cf2, rfl, _⟩ := hasVal_mk.1 hv2'
    have hz2 := HZ.out.ext hb2
    have HBW2 := Lib.hid (HBW.out.trans (hb2.mono hszr))
    have HOWN := Lib.hid hv2
    have hs2 := hb2.size
    clear hv2 hv2' hb2 x0 x1 x2 x3 x4 x5
    have z0 := hz2.cell (i := 0) rfl
    have z1 := hz2.cell (i := 1) rfl
    have z2 := hz2.cell (i := 2) rfl
    have z3 := hz2.cell (i := 3) rfl
    have z4 := hz2.cell (i := 4) rfl
    have z5 := hz2.cell (i := 5) rfl
    have y0 := hz2.frozen 0
    have y1 := hz2.frozen 1
    have y2 := hz2.frozen 2
    have y3 := hz2.frozen 3
    have y4 := hz2.frozen 4
    have y5 := hz2.frozen 5
    have hlz3 := hz2.lt
    have hze := And.intro (blk_setCells [.int .u8 (k : Int), .bool b, .int .i64 n, .string (bs s), .slice pl2 l.length cl2, .slice pf2 f.length cf2] 0 w2 zeroCs hz2) (And.intro (below_setCells (B := w.heap.size) (w0 := w) (show w.heap.size ≤ w.heap.size + 1 by omega) [.int .u8 (k : Int), .bool b, .int .i64 n, .string (bs s), .slice pl2 l.length cl2, .slice pf2 f.length cf2] 0 w2 HBW2.out) (HOWN.out.ext_to (S' := fun z => w.heap.size ≤ z) (fun z hz => Nat.le_trans hszr hz) (fun z hz hlt => other_setCells (show z ≠ w.heap.size + 1 by have h6 : wr.heap.size ≤ z := hz; omega) [.int .u8 (k : Int), .bool b, .int .i64 n, .string (bs s), .slice pl2 l.length cl2, .slice pf2 f.length cf2] 0 w2)))
    have HZE := Lib.hid hze
    clear hze hz2
    go_wp2
    exact bodyPost_ret (results_ct (p := 4) (u := 5) (ty := 26) Tryd.results16 rfl HZE.out.1 Tryd.underlying26 rfl (by kernel_rfl) rfl) rfl ⟨[.int .u8 (k : Int), .bool b, .int .i64 n, .string (bs s), .slice pl2 l.length cl2, .slice pf2 f.length cf2], by rw [HRS.out]; rfl, by rw [HRS.out]; exact HZE.out.2.2, HZE.out.2.1⟩
end Go.Proofs.YthcojmpigdojoaaDoor
