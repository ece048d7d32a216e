/- codicilref02.Get. Conditions: value and path lie in memory. -/
import Derived.Test.YthcojmpigdojoaaDoorRefNum
import Derived.Test.YthcojmpigdojoaaDoorRefCopy
set_option linter.unusedVariables false
set_option linter.unusedSimpArgs false
namespace Go.Proofs.YthcojmpigdojoaaDoor
open Go Go.RowKit Go.BigFrame
set_option maxRecDepth 100000

def fstF (p : List UInt8) (f : List (List UInt8 × DVal)) : Option DVal := (f.find? fun q => isName p q.1).map (·.2)
def atP (p : List UInt8) (l : List DVal) (j : Nat) : Option DVal := (placeN p j).bind fun i => l[i]?
def stepV (p : List UInt8) : DVal → Option DVal
  | .mk k b n s l f => if k = 6 then fstF p f else if k = 5 then atP p l l.length else none
theorem find_first (P : List UInt8 → Bool) : ∀ (f : List (List UInt8 × DVal)) (i : Nat) (h : i < f.length), P f[i].1 = true → (∀ p ∈ f.take i, P p.1 = false) → f.find? (fun q => P q.1) = some f[i]
  | [], i, h, _, _ => by simp at h
  | p :: f, 0, h, h1, _ => by rw [List.find?_cons]; have h1 : P p.1 = true := h1; rw [h1]; rfl
  | p :: f, i + 1, h, h1, h2 => by
    rw [List.find?_cons, h2 p (by simp)]
    exact find_first P f i (by simpa using h) h1 (fun q hq => h2 q (by rw [List.take_succ_cons]; exact List.mem_cons_of_mem _ hq))
theorem getV_cons (u : DVal) (p : List UInt8) (ps : List (List UInt8)) : getV u (p :: ps) = (stepV p u).bind fun v => getV v ps := by
  obtain ⟨k, b, n, s, l, f⟩ := u
  rw [getV, stepV]
  by_cases h6 : k = 6
  · rw [if_pos h6, if_pos h6]
    rcases idxI_spec (isName p) f 0 with ⟨e, hall⟩ | ⟨i, hi, e, hP, hall⟩
    · rw [e, fstF, List.find?_eq_none.2 (fun q hq => by rw [hall q hq]; decide)]
      rfl
    · rw [e, fstF, find_first _ f i hi hP hall, Nat.zero_add]
      show (match f[i]? with | some q => getV q.2 ps | none => none) = _
      rw [List.getElem?_eq_getElem hi]
      rfl
  · rw [if_neg h6, if_neg h6]
    by_cases h5 : k = 5
    · rw [if_pos h5, if_pos h5, atP]
      cases placeN p l.length with
      | none => rfl
      | some i =>
        show (match l[i]? with | some u => getV u ps | none => none) = (l[i]?).bind _
        cases l[i]? <;> rfl
    · rw [if_neg h5, if_neg h5]; rfl
theorem fstF_step {p : List UInt8} {f : List (List UInt8 × DVal)} {j : Nat} (hj : j < f.length) :
    fstF p (f.take (j + 1)) = (match fstF p (f.take j) with | some x => some x | none => if isName p f[j].1 then some f[j].2 else none) := by
  unfold fstF
  rw [List.take_succ_eq_append_getElem hj, List.find?_append]
  cases (f.take j).find? fun q => isName p q.1 with
  | some q => rfl
  | none =>
    show Option.map _ ((none : Option (List UInt8 × DVal)).or _) = _
    rw [Option.none_or, List.find?_cons]
    cases isName p f[j].1 <;> rfl
theorem atP_step {p : List UInt8} {l : List DVal} {j : Nat} (hj : j < l.length) (hn : l.length ≤ 1073741824) :
    atP p l (j + 1) = (if Lib.decDigits j = p then some l[j] else atP p l j) := by
  unfold atP
  by_cases h : Lib.decDigits j = p
  · rw [if_pos h, (placeN_iff (by omega)).2 ⟨Nat.lt_succ_self j, h⟩]
    exact List.getElem?_eq_getElem hj
  · rw [if_neg h]
    have e : placeN p (j + 1) = placeN p j := by
      cases h1 : placeN p j with
      | some i =>
        obtain ⟨h2, h3⟩ := (placeN_iff (by omega)).1 h1
        exact (placeN_iff (by omega)).2 ⟨by omega, h3⟩
      | none =>
        cases h2 : placeN p (j + 1) with
        | none => rfl
        | some i =>
          obtain ⟨h3, h4⟩ := (placeN_iff (by omega)).1 h2
          rcases Nat.lt_or_ge i j with h5 | h5
          · rw [(placeN_iff (by omega)).2 ⟨h5, h4⟩] at h1; cases h1
          · obtain rfl : i = j := by omega
            exact absurd h4 h
    rw [e]
theorem atP_zero (p : List UInt8) (l : List DVal) : atP p l 0 = none := by
  unfold atP
  cases h : placeN p 0 with
  | none => rfl
  | some i => have := ((placeN_iff (by omega)).1 h).1; omega
set_option maxHeartbeats 8000000 in
theorem rget_any (v : DVal) (path : List (List UInt8)) (S S2 : Nat → Prop) (cs : List Value) (pp : Option Addr) (pc : Nat) (w : World) (hv : HasVal S w v cs) (hp : HasS S2 w pp path) (hpn : path.length ≤ 1099511627776) :
    Calls Tryd.prog 24 #[.agg cs.toArray, .slice pp path.length pc] w (GetPost (getV v path) w) := by
  have hv2 : HasVal (fun b => b < w.heap.size) w v cs := relV.kept (relV.lt hv) (fun b h => h.2) (fun _ _ _ => rfl)
  obtain ⟨R, hR⟩ : ∃ R, R = getV v path := ⟨_, rfl⟩
  rw [← hR]
  have HR := Lib.hid hR
  have HP := Lib.hid hp
  have HV0 := Lib.hid hv2
  obtain ⟨k0, b0, n0, s0, l0, f0⟩ := v
  obtain ⟨pl0, cl0, pf0, cf0, rfl, _⟩ := hasVal_mk.1 hv
  clear hR hp hv hv2
  show Calls Tryd.prog 24 #[.agg #[.int .u8 (k0 : Int), .bool b0, .int .i64 n0, .string (bs s0), .slice pl0 l0.length cl0, .slice pf0 f0.length cf0], .slice pp path.length pc] w _
  go_enter Tryd.func24, Tryd.ntmps24
  go_upto_region 1 with (fail)
  generalize hW0 : World.alloc (World.alloc w _) _ = W0
  have hd1 : IsBlk W0 w.heap.size ([.int .u8 (k0 : Int), .bool b0, .int .i64 n0, .string (bs s0), .slice pl0 l0.length cl0, .slice pf0 f0.length cf0] : List Value).toArray 26 := by rw [← hW0]; exact (IsBlk.new _ _ _).alloc _
  have hd2 : IsBlk W0 (w.heap.size + 1) zeroCs.toArray 26 := by rw [← hW0]; exact IsBlk.new_at (by simp)
  have hbw0 : Below w.heap.size w W0 := by rw [← hW0]; exact ((Below.refl _ _).alloc (Nat.le_refl _) _).alloc (by simp) _
  have HD1 := Lib.hid hd1
  have HD2 := Lib.hid hd2
  have HB0 := Lib.hid hbw0
  have hlt2 : w.heap.size + 1 < W0.heap.size := hd2.lt
  clear hW0 hd1 hd2 hbw0
  go_wp2
  go_loopw [16] (fun i wr => ∃ (j : Nat) (u : DVal) (cu : List Value), i = .int .i64 (j : Int) ∧ j ≤ path.length ∧ IsBlk wr w.heap.size cu.toArray 26 ∧ HasVal (fun b => b < w.heap.size) w u cu ∧ getV u (path.drop j) = R ∧ IsBlk wr (w.heap.size + 1) zeroCs.toArray 26 ∧ Below w.heap.size w wr) (fun i _ => path.length - (intOf i).toNat)
  case atStart => exact ⟨0, .mk k0 b0 n0 s0 l0 f0, _, rfl, Nat.zero_le _, HD1.out, HV0.out, HR.out.symm, HD2.out, HB0.out⟩
  case round =>
  clear HD1 HV0 HR HD2 HB0
  obtain ⟨j, u, cu, rfl, hj, hblk, hval, hrel, hzer, hbw⟩ := hrel
  obtain ⟨k, b, n, s, l, f⟩ := u
  obtain ⟨pl, cl, pf, cf, rfl, hbd, hL, hF⟩ := hasVal_mk.1 hval
  have HBK := Lib.hid hblk
  have HVAL := Lib.hid hval
  have HREL := Lib.hid hrel
  have HZ := Lib.hid hzer
  have HBW := Lib.hid hbw
  have HL := Lib.hid hL
  have HF := Lib.hid hF
  have hszr := hbw.size
  have hlf := hbd.2.2.2.2.2.1
  have hll := hbd.2.2.2.2.1
  have hlb := hblk.lt
  have hlz := hzer.lt
  have x0 := hblk.cell (i := 0) rfl
  have x1 := hblk.cell (i := 1) rfl
  have x2 := hblk.cell (i := 2) rfl
  have x3 := hblk.cell (i := 3) rfl
  have x4 := hblk.cell (i := 4) rfl
  have x5 := hblk.cell (i := 5) rfl
  clear hblk hval hrel hzer hbw hL hF hbd
  by_cases hlt : j < path.length
  · obtain ⟨gp, op, hpp, _, hgp, hcp⟩ := (HP.out.ext HBW.out) j hlt
    have hdr : path.drop j = path[j] :: path.drop (j + 1) := List.drop_eq_getElem_cons hlt
    generalize path[j] = p at hcp hdr
    have hr1 := HREL.out
    rw [hdr, getV_cons] at hr1
    have HR1 := Lib.hid hr1
    have hps := bs_size p
    subst hpp
    clear hdr hr1 HREL
    obtain ⟨WR, hWR⟩ : ∃ WR, WR = wr := ⟨_, rfl⟩
    subst hWR
    go_upto_region 6 with (fail)
    generalize hW5 : World.alloc WR _ = W5
    have hd9 : IsBlk W5 WR.heap.size zeroCs.toArray 26 := by rw [← hW5]; exact IsBlk.new _ _ _
    have hb5 : Below WR.heap.size WR W5 := by rw [← hW5]; exact (Below.refl _ _).alloc (Nat.le_refl _) _
    have hbk5 := HBK.out.ext hb5
    clear x0 x1 x2 x3 x4 x5 hcp
    have x0 := hbk5.cell (i := 0) rfl
    have x1 := hbk5.cell (i := 1) rfl
    have x2 := hbk5.cell (i := 2) rfl
    have x3 := hbk5.cell (i := 3) rfl
    have x4 := hbk5.cell (i := 4) rfl
    have x5 := hbk5.cell (i := 5) rfl
    have hl5 := hbk5.lt
    have HD9 := Lib.hid hd9
    have HB5 := Lib.hid hb5
    clear hW5 hd9 hb5 hbk5
    obtain ⟨o1, ho1⟩ : ∃ o1, o1 = (if k = 6 then fstF p f else none) := ⟨_, rfl⟩
    have HO1 := Lib.hid ho1
    clear ho1
    go_upto_if 23 with (fail)
    go_cut [8] (fun o8 wx => ∃ cn, o8 = .bool o1.isSome ∧ IsBlk wx WR.heap.size cn.toArray 26 ∧ HasVal (fun z => z < w.heap.size) w (o1.getD .zero) cn ∧ Below WR.heap.size WR wx)
    case first =>
      by_cases hk : k = 6
      · subst hk
        have hof : o1 = fstF p f := by rw [HO1.out, if_pos rfl]
        have HOF := Lib.hid hof
        clear hof
        go_wp2
        clear x0 x1 x2 x3 x4 x5
        go_loopw [8, 27] (fun a i wx => ∃ (j2 : Nat) (o : Option DVal) (cn : List Value), a = .bool o.isSome ∧ i = .int .i64 (j2 : Int) ∧ j2 ≤ f.length ∧ o = fstF p (f.take j2) ∧ IsBlk wx WR.heap.size cn.toArray 26 ∧ HasVal (fun z => z < w.heap.size) w (o.getD .zero) cn ∧ Below WR.heap.size WR wx) (fun _ i _ => f.length - (intOf i).toNat)
        case atStart => exact ⟨0, none, zeroCs, rfl, rfl, Nat.zero_le _, rfl, HD9.out, zero_has _ _, HB5.out⟩
        case round =>
        clear HD9 HB5
        obtain ⟨j2, o, cn, rfl, rfl, hj2, ho, hd9, hon, hbx⟩ := hrel
        have HO := Lib.hid ho
        have HD9 := Lib.hid hd9
        have HON := Lib.hid hon
        have HBX := Lib.hid hbx
        have hsx := hbx.size
        have hl9 := hd9.lt
        clear ho hd9 hon hbx
        by_cases hlt2 : j2 < f.length
        · obtain ⟨g1, oo1, cs1, hp1, ⟨hx1, hc1⟩, hv1⟩ := HF.out j2 hlt2
          have hst := fstF_step (p := p) hlt2
          rw [← HO.out] at hst
          generalize f[j2] = q at hv1 hc1 hx1 hst
          obtain ⟨xn, v2⟩ := q
          simp only [] at hv1 hc1 hx1 hst
          obtain ⟨k2, b2, n2, s2, l2, f2⟩ := v2
          have HV1 := Lib.hid hv1
          obtain ⟨pl2, cl2, pf2, cf2, rfl, _⟩ := hasVal_mk.1 hv1
          have hc2 := hc1.kept (S' := fun _ => True) (w' := wr) (fun _ _ => trivial) (fun z _ hlt => (HBW.out.trans (HBX.out.mono hszr)).block z hlt)
          obtain ⟨e0, e1, e2, e3, e4, e5, e6⟩ := hc2.seven
          have hg1 := hc2.2.1
          obtain ⟨E, hE⟩ : ∃ E, E = isName p xn := ⟨_, rfl⟩
          have hxe : ((bs xn).toList == (bs p).toList) = E := by rw [tl_bs, tl_bs, hE]; rfl
          rw [← hE] at hst
          have HST := Lib.hid hst
          have hbq : Below wr.heap.size wr (wr.alloc (.cells #[.string (bs xn), .int .u8 (k2 : Int), .bool b2, .int .i64 n2, .string (bs s2), .slice pl2 l2.length cl2, .slice pf2 f2.length cf2] 38)) := (Below.refl _ _).alloc (Nat.le_refl _) _
          have hbrx := below_ext HBX.out hbq
          have HBQ := Lib.hid hbrx
          have hd9 := HD9.out.ext hbq
          obtain ⟨Z3, hZ3⟩ : ∃ Z, Z = o.getD .zero := ⟨_, rfl⟩
          have hon := HON.out
          rw [← hZ3] at hon
          obtain ⟨k3, b3, n3, s3, l3, f3⟩ := Z3
          obtain ⟨pl3, cl3, pf3, cf3, rfl, _⟩ := hasVal_mk.1 hon
          have hd9w := HD9.out
          have r0 := hd9w.cell (i := 0) rfl
          have r1 := hd9w.cell (i := 1) rfl
          have r2 := hd9w.cell (i := 2) rfl
          have r3 := hd9w.cell (i := 3) rfl
          have r4 := hd9w.cell (i := 4) rfl
          have r5 := hd9w.cell (i := 5) rfl
          have z0 := hd9w.frozen 0
          have z1 := hd9w.frozen 1
          have z2 := hd9w.frozen 2
          have z3 := hd9w.frozen 3
          have z4 := hd9w.frozen 4
          have z5 := hd9w.frozen 5
          have hl9q := hd9w.lt
          have HSC := Lib.hid (And.intro ((blk_setCells [.int .u8 (k2 : Int), .bool b2, .int .i64 n2, .string (bs s2), .slice pl2 l2.length cl2, .slice pf2 f2.length cf2] 0 wr [.int .u8 (k3 : Int), .bool b3, .int .i64 n3, .string (bs s3), .slice pl3 l3.length cl3, .slice pf3 f3.length cf3] hd9w).alloc (.cells #[.string (bs xn), .int .u8 (k2 : Int), .bool b2, .int .i64 n2, .string (bs s2), .slice pl2 l2.length cl2, .slice pf2 f2.length cf2] 38)) ((below_setCells (B := WR.heap.size) (w0 := WR) (Nat.le_refl _) [.int .u8 (k2 : Int), .bool b2, .int .i64 n2, .string (bs s2), .slice pl2 l2.length cl2, .slice pf2 f2.length cf2] 0 wr HBX.out).alloc (by rw [size_setCells]; exact hsx) (.cells #[.string (bs xn), .int .u8 (k2 : Int), .bool b2, .int .i64 n2, .string (bs s2), .slice pl2 l2.length cl2, .slice pf2 f2.length cf2] 38)))
          have HD9Q := Lib.hid hd9
          clear hv1 hc1 hc2 hx1 hst hE hbq hbrx hd9 hd9w hZ3 hon
          subst hp1
          by_cases hgo : E = true ∧ o = none
          · obtain ⟨rfl, rfl⟩ := hgo
            have HN : Hid (some (DVal.mk k2 b2 n2 s2 l2 f2) = fstF p (f.take (j2 + 1))) := Lib.hid (by rw [HST.out]; rfl)
            go_wp2
            clear r0 r1 r2 r3 r4 r5 z0 z1 z2 z3 z4 z5 e0 e1 e2 e3 e4 e5 e6
            go_wp2
            go_roundw
            case rel =>
              first
                | exact ⟨j2 + 1, some (.mk k2 b2 n2 s2 l2 f2), [.int .u8 (k2 : Int), .bool b2, .int .i64 n2, .string (bs s2), .slice pl2 l2.length cl2, .slice pf2 f2.length cf2], rfl, by go_num, hlt2, HN.out, HSC.out.1, HV1.out, HSC.out.2⟩
                | (repeat apply Exists.intro
                   refine ⟨⟨j2 + 1, some (.mk k2 b2 n2 s2 l2 f2), [.int .u8 (k2 : Int), .bool b2, .int .i64 n2, .string (bs s2), .slice pl2 l2.length cl2, .slice pf2 f2.length cf2], rfl, by go_num, hlt2, HN.out, HSC.out.1, HV1.out, HSC.out.2⟩, ?_⟩
                   rfl)
            case measure => simp [intOf]; omega
          · have HN : Hid (o = fstF p (f.take (j2 + 1))) := Lib.hid (by
              rw [HST.out]
              cases o with
              | some x => rfl
              | none =>
                cases E
                · rfl
                · exact absurd ⟨rfl, rfl⟩ hgo)
            have hsp : E = false ∨ (E = true ∧ ∃ x, o = some x) := by
              cases E
              · exact .inl rfl
              · refine .inr ⟨rfl, ?_⟩
                cases o with
                | none => exact absurd ⟨rfl, rfl⟩ hgo
                | some x => exact ⟨x, rfl⟩
            clear hgo
            rcases hsp with rfl | ⟨rfl, x, rfl⟩
            all_goals
              go_wp2
              clear r0 r1 r2 r3 r4 r5 z0 z1 z2 z3 z4 z5 e0 e1 e2 e3 e4 e5 e6
              go_roundw
              case rel =>
                first
                  | exact ⟨j2 + 1, _, _, rfl, by go_num, hlt2, HN.out, HD9Q.out, HON.out, HBQ.out⟩
                  | (repeat apply Exists.intro
                     refine ⟨⟨j2 + 1, _, _, rfl, by go_num, hlt2, HN.out, HD9Q.out, HON.out, HBQ.out⟩, ?_⟩
                     rfl)
              case measure => simp [intOf]; omega
        · obtain rfl : j2 = f.length := by omega
          have ho1 : o = o1 := by rw [HO.out, HOF.out, List.take_length]
          subst ho1
          go_wp2
          go_meet
          exact ⟨cn, rfl, HD9.out, HON.out, HBX.out⟩
      · have hkb : ((k : Int) == 6) = false := by simp; omega
        have ho1 : o1 = none := by rw [HO1.out, if_neg hk]
        subst ho1
        go_wp2
        go_meet
        exact ⟨zeroCs, rfl, HD9.out, zero_has _ _, HB5.out⟩
    case rest =>
    obtain ⟨cn1, rfl, hd9, hon, hb5⟩ := hcut
    obtain ⟨WC, hWC⟩ : ∃ WC, WC = wc := ⟨_, rfl⟩
    subst hWC
    have HD91 := Lib.hid hd9
    have HON1 := Lib.hid hon
    have HB51 := Lib.hid hb5
    have hbk5 := HBK.out.ext hb5
    clear x0 x1 x2 x3 x4 x5 hl5 HD9 HB5
    have x0 := hbk5.cell (i := 0) rfl
    have x1 := hbk5.cell (i := 1) rfl
    have x2 := hbk5.cell (i := 2) rfl
    have x3 := hbk5.cell (i := 3) rfl
    have x4 := hbk5.cell (i := 4) rfl
    have x5 := hbk5.cell (i := 5) rfl
    have hl5 := hbk5.lt
    clear hd9 hon hb5 hbk5
    obtain ⟨o2, ho2⟩ : ∃ o2, o2 = (if k = 5 then atP p l l.length else o1) := ⟨_, rfl⟩
    have HO2 := Lib.hid ho2
    clear ho2
    go_upto_if 44 with (fail)
    go_cut [8] (fun o8 wx => ∃ cn, o8 = .bool o2.isSome ∧ IsBlk wx WR.heap.size cn.toArray 26 ∧ HasVal (fun z => z < w.heap.size) w (o2.getD .zero) cn ∧ Below WR.heap.size WR wx)
    case first =>
      by_cases hk : k = 5
      · subst hk
        have hof : o2 = atP p l l.length := by rw [HO2.out, if_pos rfl]
        have HOF := Lib.hid hof
        have ho1n : o1 = none := by rw [HO1.out, if_neg (by decide)]
        subst ho1n
        clear hof
        go_wp2
        clear x0 x1 x2 x3 x4 x5
        go_loopw [8, 48] (fun a i wx => ∃ (j2 : Nat) (o : Option DVal) (cn : List Value), a = .bool o.isSome ∧ i = .int .i64 (j2 : Int) ∧ j2 ≤ l.length ∧ o = atP p l j2 ∧ IsBlk wx WR.heap.size cn.toArray 26 ∧ HasVal (fun z => z < w.heap.size) w (o.getD .zero) cn ∧ Below WR.heap.size WR wx) (fun _ i _ => l.length - (intOf i).toNat)
        case atStart => exact ⟨0, none, cn1, rfl, rfl, Nat.zero_le _, (atP_zero p l).symm, HD91.out, HON1.out, HB51.out⟩
        case round =>
        clear HD91 HB51 HON1
        obtain ⟨j2, o, cn, rfl, rfl, hj2, ho, hd9, hon, hbx⟩ := hrel
        have HO := Lib.hid ho
        have HD9 := Lib.hid hd9
        have HON := Lib.hid hon
        have HBX := Lib.hid hbx
        have hsx := hbx.size
        have hl9 := hd9.lt
        clear ho hd9 hon hbx
        by_cases hlt2 : j2 < l.length
        · obtain ⟨g1, oo1, cs1, hp1, hc1, hv1⟩ := HL.out j2 hlt2
          have hst := atP_step (p := p) hlt2 hll
          rw [← HO.out] at hst
          generalize l[j2] = v2 at hv1 hc1 hst
          obtain ⟨k2, b2, n2, s2, l2, f2⟩ := v2
          have HV1 := Lib.hid hv1
          obtain ⟨pl2, cl2, pf2, cf2, rfl, _⟩ := hasVal_mk.1 hv1
          have hc2 := hc1.kept (S' := fun _ => True) (w' := wr) (fun _ _ => trivial) (fun z _ hlt => (HBW.out.trans (HBX.out.mono hszr)).block z hlt)
          obtain ⟨e0, e1, e2, e3, e4, e5⟩ := hc2.six
          have hg1 := hc2.2.1
          obtain ⟨E, hE⟩ : ∃ E, E = (Lib.decDigits j2 == p) := ⟨_, rfl⟩
          have hxe : ((bs (Lib.decDigits j2)).toList == (bs p).toList) = E := by rw [tl_bs, tl_bs, hE]
          have HST := Lib.hid hst
          have HE := Lib.hid hE
          have hbq : Below wr.heap.size wr (wr.alloc (.cells #[.int .u8 (k2 : Int), .bool b2, .int .i64 n2, .string (bs s2), .slice pl2 l2.length cl2, .slice pf2 f2.length cf2] 26)) := (Below.refl _ _).alloc (Nat.le_refl _) _
          have HBQ := Lib.hid (below_ext HBX.out hbq)
          have HD9Q := Lib.hid (HD9.out.ext hbq)
          obtain ⟨Z3, hZ3⟩ : ∃ Z, Z = o.getD .zero := ⟨_, rfl⟩
          have hon := HON.out
          rw [← hZ3] at hon
          obtain ⟨k3, b3, n3, s3, l3, f3⟩ := Z3
          obtain ⟨pl3, cl3, pf3, cf3, rfl, _⟩ := hasVal_mk.1 hon
          have hd9w := HD9.out
          have r0 := hd9w.cell (i := 0) rfl
          have r1 := hd9w.cell (i := 1) rfl
          have r2 := hd9w.cell (i := 2) rfl
          have r3 := hd9w.cell (i := 3) rfl
          have r4 := hd9w.cell (i := 4) rfl
          have r5 := hd9w.cell (i := 5) rfl
          have z0 := hd9w.frozen 0
          have z1 := hd9w.frozen 1
          have z2 := hd9w.frozen 2
          have z3 := hd9w.frozen 3
          have z4 := hd9w.frozen 4
          have z5 := hd9w.frozen 5
          have hl9q := hd9w.lt
          have HSC := Lib.hid (And.intro ((blk_setCells [.int .u8 (k2 : Int), .bool b2, .int .i64 n2, .string (bs s2), .slice pl2 l2.length cl2, .slice pf2 f2.length cf2] 0 wr [.int .u8 (k3 : Int), .bool b3, .int .i64 n3, .string (bs s3), .slice pl3 l3.length cl3, .slice pf3 f3.length cf3] hd9w).alloc (.cells #[.int .u8 (k2 : Int), .bool b2, .int .i64 n2, .string (bs s2), .slice pl2 l2.length cl2, .slice pf2 f2.length cf2] 26)) ((below_setCells (B := WR.heap.size) (w0 := WR) (Nat.le_refl _) [.int .u8 (k2 : Int), .bool b2, .int .i64 n2, .string (bs s2), .slice pl2 l2.length cl2, .slice pf2 f2.length cf2] 0 wr HBX.out).alloc (by rw [size_setCells]; exact hsx) (.cells #[.int .u8 (k2 : Int), .bool b2, .int .i64 n2, .string (bs s2), .slice pl2 l2.length cl2, .slice pf2 f2.length cf2] 26)))
          have hj262 : j2 < 4611686018427387904 := by omega
          clear hv1 hc1 hc2 hst hE hbq hd9w hZ3 hon
          subst hp1
          go_wp2_with fail
          go_at_call 49
          refine (rnum_any j2 hj262 _).mono ?_
          rintro e' w9 ⟨rfl, rfl⟩
          cases E
          · have HN : Hid (o = atP p l (j2 + 1)) := Lib.hid (by rw [HST.out, if_neg (by have := HE.out; simpa using this.symm)])
            go_wp2
            clear r0 r1 r2 r3 r4 r5 z0 z1 z2 z3 z4 z5 e0 e1 e2 e3 e4 e5
            go_roundw
            case rel =>
              first
                | exact ⟨j2 + 1, _, _, rfl, by go_num, hlt2, HN.out, HD9Q.out, HON.out, HBQ.out⟩
                | (repeat apply Exists.intro
                   refine ⟨⟨j2 + 1, _, _, rfl, by go_num, hlt2, HN.out, HD9Q.out, HON.out, HBQ.out⟩, ?_⟩
                   rfl)
            case measure => simp [intOf]; omega
          · have HN : Hid (some (DVal.mk k2 b2 n2 s2 l2 f2) = atP p l (j2 + 1)) := Lib.hid (by rw [HST.out, if_pos (by have := HE.out; simpa using this.symm)])
            go_wp2
            clear r0 r1 r2 r3 r4 r5 z0 z1 z2 z3 z4 z5 e0 e1 e2 e3 e4 e5
            go_roundw
            case rel =>
              first
                | exact ⟨j2 + 1, some (.mk k2 b2 n2 s2 l2 f2), [.int .u8 (k2 : Int), .bool b2, .int .i64 n2, .string (bs s2), .slice pl2 l2.length cl2, .slice pf2 f2.length cf2], rfl, by go_num, hlt2, HN.out, HSC.out.1, HV1.out, HSC.out.2⟩
                | (repeat apply Exists.intro
                   refine ⟨⟨j2 + 1, some (.mk k2 b2 n2 s2 l2 f2), [.int .u8 (k2 : Int), .bool b2, .int .i64 n2, .string (bs s2), .slice pl2 l2.length cl2, .slice pf2 f2.length cf2], rfl, by go_num, hlt2, HN.out, HSC.out.1, HV1.out, HSC.out.2⟩, ?_⟩
                   rfl)
            case measure => simp [intOf]; omega
        · obtain rfl : j2 = l.length := by omega
          have ho2' : o = o2 := by rw [HO.out, HOF.out]
          subst ho2'
          go_wp2
          go_meet
          exact ⟨cn, rfl, HD9.out, HON.out, HBX.out⟩
      · have hkb : ((k : Int) == 5) = false := by simp; omega
        have ho2' : o2 = o1 := by rw [HO2.out, if_neg hk]
        subst ho2'
        go_wp2
        go_meet
        exact ⟨cn1, rfl, HD91.out, HON1.out, HB51.out⟩
    case rest =>
    obtain ⟨cn2, rfl, hd9, hon, hb6⟩ := hcut
    have hstep : stepV p (.mk k b n s l f) = o2 := by
      rw [stepV, HO2.out, HO1.out]
      by_cases h6 : k = 6
      · rw [if_pos h6, if_neg (by omega), if_pos h6]
      · rw [if_neg h6, if_neg h6]
    have hr1 := HR1.out
    rw [hstep] at hr1
    have HR2 := Lib.hid hr1
    have HBW6 := Lib.hid (HBW.out.trans (hb6.mono hszr))
    have HZ6 := Lib.hid (HZ.out.ext hb6)
    have HBK6 := Lib.hid (HBK.out.ext hb6)
    have hl9 := hd9.lt
    clear x0 x1 x2 x3 x4 x5 hl5 hb6 hstep hr1
    cases o2 with
    | none =>
      have HRN : Hid (R = none) := Lib.hid (by rw [← HR2.out]; rfl)
      have hz6 := HZ6.out
      have z0 := hz6.cell (i := 0) rfl
      have z1 := hz6.cell (i := 1) rfl
      have z2 := hz6.cell (i := 2) rfl
      have z3 := hz6.cell (i := 3) rfl
      have z4 := hz6.cell (i := 4) rfl
      have z5 := hz6.cell (i := 5) rfl
      have y0 := hz6.frozen 0
      have y1 := hz6.frozen 1
      have y2 := hz6.frozen 2
      have y3 := hz6.frozen 3
      have y4 := hz6.frozen 4
      have y5 := hz6.frozen 5
      have hlz6 := hz6.lt
      have hze := And.intro (blk_setCells zeroCs 0 wc zeroCs hz6) (below_setCells (B := w.heap.size) (w0 := w) (show w.heap.size ≤ w.heap.size + 1 by omega) zeroCs 0 wc HBW6.out)
      have HZE := Lib.hid hze
      clear hze hz6 hd9 hon
      go_wp2
      exact bodyPost_ret (results_ct (p := 4) (u := 5) (ty := 26) Tryd.results24 rfl HZE.out.1 Tryd.underlying26 rfl (by kernel_rfl) rfl) rfl ⟨zeroCs, by rw [HRN.out]; rfl, by rw [HRN.out]; exact zero_has _ _, HZE.out.2⟩
    | some u2 =>
      have HRS : Hid (getV u2 (path.drop (j + 1)) = R) := Lib.hid (by rw [← HR2.out]; rfl)
      have HON2 := Lib.hid (show HasVal (fun z => z < w.heap.size) w u2 cn2 from hon)
      obtain ⟨k2, b2, n2, s2, l2, f2⟩ := u2
      obtain ⟨pl2, cl2, pf2, cf2, rfl, _⟩ := hasVal_mk.1 HON2.out
      have hbk6 := HBK6.out
      have r0 := hd9.cell (i := 0) rfl
      have r1 := hd9.cell (i := 1) rfl
      have r2 := hd9.cell (i := 2) rfl
      have r3 := hd9.cell (i := 3) rfl
      have r4 := hd9.cell (i := 4) rfl
      have r5 := hd9.cell (i := 5) rfl
      have x0 := hbk6.cell (i := 0) rfl
      have x1 := hbk6.cell (i := 1) rfl
      have x2 := hbk6.cell (i := 2) rfl
      have x3 := hbk6.cell (i := 3) rfl
      have x4 := hbk6.cell (i := 4) rfl
      have x5 := hbk6.cell (i := 5) rfl
      have y0 := hbk6.frozen 0
      have y1 := hbk6.frozen 1
      have y2 := hbk6.frozen 2
      have y3 := hbk6.frozen 3
      have y4 := hbk6.frozen 4
      have y5 := hbk6.frozen 5
      have hlb6 := hbk6.lt
      have hne : w.heap.size + 1 ≠ w.heap.size := by omega
      have HF2 := Lib.hid (And.intro (blk_setCells [.int .u8 (k2 : Int), .bool b2, .int .i64 n2, .string (bs s2), .slice pl2 l2.length cl2, .slice pf2 f2.length cf2] 0 wc [.int .u8 (k : Int), .bool b, .int .i64 n, .string (bs s), .slice pl l.length cl, .slice pf f.length cf] hbk6) (And.intro ((other_setCells hne [.int .u8 (k2 : Int), .bool b2, .int .i64 n2, .string (bs s2), .slice pl2 l2.length cl2, .slice pf2 f2.length cf2] 0 wc).trans HZ6.out) (below_setCells (B := w.heap.size) (w0 := w) (Nat.le_refl _) [.int .u8 (k2 : Int), .bool b2, .int .i64 n2, .string (bs s2), .slice pl2 l2.length cl2, .slice pf2 f2.length cf2] 0 wc HBW6.out)))
      clear hon hd9 hbk6 hne
      go_wp2
      go_roundw
      case rel =>
        first
          | exact ⟨j + 1, .mk k2 b2 n2 s2 l2 f2, [.int .u8 (k2 : Int), .bool b2, .int .i64 n2, .string (bs s2), .slice pl2 l2.length cl2, .slice pf2 f2.length cf2], by go_num, hlt, HF2.out.1, HON2.out, HRS.out, HF2.out.2.1, HF2.out.2.2⟩
          | (repeat apply Exists.intro
             refine ⟨⟨j + 1, .mk k2 b2 n2 s2 l2 f2, [.int .u8 (k2 : Int), .bool b2, .int .i64 n2, .string (bs s2), .slice pl2 l2.length cl2, .slice pf2 f2.length cf2], by go_num, hlt, HF2.out.1, HON2.out, HRS.out, HF2.out.2.1, HF2.out.2.2⟩, ?_⟩
             rfl)
      case measure => simp [intOf]; omega
  · obtain rfl : j = path.length := by omega
    have hru : R = some (.mk k b n s l f) := by rw [← HREL.out, List.drop_length]; rfl
    have HRU := Lib.hid hru
    have hvw := HVAL.out.ext HBW.out
    have hzw := HZ.out
    clear hru
    go_wp2_with fail
    go_at_call 15
    refine (rcopy_any (.mk k b n s l f) _ _ _ hvw).mono ?_
    rintro e' w3 ⟨cs3, rfl, hv3, _, hb3⟩
    obtain ⟨pl3, cl3, pf3, cf3, rfl, _⟩ := hasVal_mk.1 hv3
    have hz3 := hzw.ext hb3
    have hv3' : HasVal (fun z => wr.heap.size ≤ z) w3 (.mk k b n s l f) [.int .u8 (k : Int), .bool b, .int .i64 n, .string (bs s), .slice pl3 l.length cl3, .slice pf3 f.length cf3] := hv3
    have z0 := hz3.cell (i := 0) rfl
    have z1 := hz3.cell (i := 1) rfl
    have z2 := hz3.cell (i := 2) rfl
    have z3 := hz3.cell (i := 3) rfl
    have z4 := hz3.cell (i := 4) rfl
    have z5 := hz3.cell (i := 5) rfl
    have y0 := hz3.frozen 0
    have y1 := hz3.frozen 1
    have y2 := hz3.frozen 2
    have y3 := hz3.frozen 3
    have y4 := hz3.frozen 4
    have y5 := hz3.frozen 5
    have hlz3 := hz3.lt
    have hend : HasVal (fun z => w.heap.size ≤ z) (w3.setCells (w.heap.size + 1) 0 [.int .u8 (k : Int), .bool b, .int .i64 n, .string (bs s), .slice pl3 l.length cl3, .slice pf3 f.length cf3]) (.mk k b n s l f) [.int .u8 (k : Int), .bool b, .int .i64 n, .string (bs s), .slice pl3 l.length cl3, .slice pf3 f.length cf3] := hv3'.ext_to (fun z hz => Nat.le_trans hszr hz) (fun z hz hlt => other_setCells (by have h6 : wr.heap.size ≤ z := hz; omega) _ _ _)
    have hze := And.intro (blk_setCells [.int .u8 (k : Int), .bool b, .int .i64 n, .string (bs s), .slice pl3 l.length cl3, .slice pf3 f.length cf3] 0 w3 zeroCs hz3) (And.intro hend (below_setCells (B := w.heap.size) (w0 := w) (show w.heap.size ≤ w.heap.size + 1 by omega) [.int .u8 (k : Int), .bool b, .int .i64 n, .string (bs s), .slice pl3 l.length cl3, .slice pf3 f.length cf3] 0 w3 (HBW.out.trans (hb3.mono hszr))))
    have HZE := Lib.hid hze
    clear hze hz3 hend hv3 hv3' hb3 hzw hvw x0 x1 x2 x3 x4 x5
    go_wp2
    exact bodyPost_ret (results_ct (p := 4) (u := 5) (ty := 26) Tryd.results24 rfl HZE.out.1 Tryd.underlying26 rfl (by kernel_rfl) rfl) rfl ⟨[.int .u8 (k : Int), .bool b, .int .i64 n, .string (bs s), .slice pl3 l.length cl3, .slice pf3 f.length cf3], by rw [HRU.out]; rfl, by rw [HRU.out]; exact HZE.out.2.1, HZE.out.2.2⟩
end Go.Proofs.YthcojmpigdojoaaDoor
