/- codicilref02.Put. Conditions: struct and value lie in memory, the name is no longer than 2^30 bytes, the fields no more than 2^20. -/
import Derived.Test.YthcojmpigdojoaaDoorRefDrop
set_option linter.unusedVariables false
set_option linter.unusedSimpArgs false
namespace Go.Proofs.YthcojmpigdojoaaDoor
open Go Go.RowKit Go.BigFrame
set_option maxRecDepth 100000

section
variable {P : Program} {ops : Array Oper} {rest : List Oper} {o : Oper} {a : Act} {Q : Exit → Act → World → Prop}
theorem push_new {W : World} (B2 : Nat) (Dp : Nat → Prop) (hDp : ∀ z, Dp z → z < B2) (hgd : o.guard = none) (s x : Operand) (t e : TypeId) (z : Value) (bytes : Nat)
    (ho : o.op = .call { callee := .builtin .append, args := #[s, x], argTypes := #[t, t] })
    (ht : P.underlying t = some (.slice e)) (hinfo : (P.info? e).map (fun i => (i.zero, i.size, i.bytes)) = some (some z, 7, bytes)) (hz : z.cells.size = 7)
    (v : Value) (vs : List (List UInt8 × DVal)) (HA : Full HasFld 7 B2 (NewD Dp B2 v) e W v vs) (g : Nat) (cs : List Value) (y : List UInt8 × DVal) (hG : IsBlk W g cs.toArray e) (hy : HasFld (NewD Dp B2 v) W y cs) (hs : a.eval s = v) (hx : a.eval x = .slice (some ⟨g, 0, none⟩) 1 1)
    (hB : B2 ≤ W.heap.size) (hl : (vs.length + 1) * bytes ≤ 140737488355328) (hl2 : vs.length + 1 ≤ maxLen)
    (h : ∀ g1 cap w1, Hid (Full HasFld 7 B2 (NewD Dp B2 (.slice (some ⟨g1, 0, none⟩) (vs.length + 1) cap)) e w1 (.slice (some ⟨g1, 0, none⟩) (vs.length + 1) cap) (vs ++ [y])) → Hid (W.grownBy w1 v.ownBlock) → B2 ≤ g1 → g1 < w1.heap.size → wpList P ops Q rest (a.put o.dst (.slice (some ⟨g1, 0, none⟩) (vs.length + 1) cap)) w1) :
    wpList P ops Q (o :: rest) a W := by
  refine push_full relF B2 (NewD Dp B2 v) hgd s x t e z bytes ho ht hinfo hz (by decide) v vs HA (fun b hb e => ?_) g cs y hG hy hs hx hB hl hl2 (fun g1 cap w1 hf hg h1 _ hlt => ?_)
  · rcases hb with hb | hb
    · have h1 := (HA.lt b e).1
      have h2 := hDp b hb
      omega
    · exact hb.2 e
  · refine h g1 cap w1 (show Full _ _ _ _ _ _ _ _ from hf.kept relF (fun b hb => ?_) (fun _ _ => rfl) (fun _ _ _ => rfl)) (show World.grownBy _ _ _ from hg) h1 hlt
    rcases hb.1 with h2 | h2
    · exact .inl h2
    · exact .inr ⟨h2.1, fun e => hb.2 (Option.some.inj e).symm⟩
end
def insP (name : List UInt8) (x : DVal) (put : Bool) (f : List (List UInt8 × DVal)) : List (List UInt8 × DVal) := if put then f else insF name x f
set_option maxHeartbeats 16000000 in
theorem rput_any (k : Nat) (b : Bool) (n : Int) (s : List UInt8) (l : List DVal) (f : List (List UInt8 × DVal)) (name : List UInt8) (x : DVal) (S S2 : Nat → Prop) (cs cx : List Value) (w : World) (hv : HasVal S w (.mk k b n s l f) cs) (hx : HasVal S2 w x cx) (hnl : name.length ≤ 1073741824) (hfl : f.length ≤ 1048577) :
    Calls Tryd.prog 25 #[.agg cs.toArray, .string (bs name), .agg cx.toArray] w fun e' w' => ∃ cs', e' = .returned (.tuple #[.agg cs'.toArray, .int .i64 (if k = 6 then 0 else 5)]) ∧ HasVal (fun z => w.heap.size ≤ z) w' (putV name x (.mk k b n s l f)) cs' ∧ Below w.heap.size w w' := by
  have HV := Lib.hid hv
  have HX := Lib.hid hx
  have hv' := hv
  have hx' := hx
  obtain ⟨R, hR⟩ : ∃ R, R = putV name x (.mk k b n s l f) := ⟨_, rfl⟩
  rw [← hR]
  have HR := Lib.hid hR
  obtain ⟨k1, b1, n1, s1, l1, f1⟩ := x
  obtain ⟨pl, cl, pf, cf, rfl, hbd, _⟩ := hasVal_mk.1 hv'
  obtain ⟨pl1, cl1, pf1, cf1, rfl, _⟩ := hasVal_mk.1 hx'
  have HBD := Lib.hid hbd
  clear hv hx hv' hx' hbd hR
  by_cases hk : k = 6
  case neg =>
    have hkb : ((k : Int) != 6) = true := by simp; omega
    rw [if_neg hk]
    have HZ0 : Hid (R = .zero) := Lib.hid (by rw [HR.out, putV, if_neg hk])
    clear hk
    show Calls Tryd.prog 25 #[.agg #[.int .u8 (k : Int), .bool b, .int .i64 n, .string (bs s), .slice pl l.length cl, .slice pf f.length cf], .string (bs name), .agg #[.int .u8 (k1 : Int), .bool b1, .int .i64 n1, .string (bs s1), .slice pl1 l1.length cl1, .slice pf1 f1.length cf1]] w _
    have hz4 : IsBlk (((w.alloc (.cells #[.int .u8 (k : Int), .bool b, .int .i64 n, .string (bs s), .slice pl l.length cl, .slice pf f.length cf] 26)).alloc (.cells #[.int .u8 (k1 : Int), .bool b1, .int .i64 n1, .string (bs s1), .slice pl1 l1.length cl1, .slice pf1 f1.length cf1] 26)).alloc (.cells #[.int .u8 0, .bool false, .int .i64 0, .string (bs []), .slice none 0 0, .slice none 0 0] 26)) (w.heap.size + 1 + 1) #[.int .u8 0, .bool false, .int .i64 0, .string (bs []), .slice none 0 0, .slice none 0 0] 26 := IsBlk.new_at (by simp)
    have hb4 : Below w.heap.size w (((w.alloc (.cells #[.int .u8 (k : Int), .bool b, .int .i64 n, .string (bs s), .slice pl l.length cl, .slice pf f.length cf] 26)).alloc (.cells #[.int .u8 (k1 : Int), .bool b1, .int .i64 n1, .string (bs s1), .slice pl1 l1.length cl1, .slice pf1 f1.length cf1] 26)).alloc (.cells #[.int .u8 0, .bool false, .int .i64 0, .string (bs []), .slice none 0 0, .slice none 0 0] 26)) := (((Below.refl _ _).alloc (Nat.le_refl _) _).alloc (by simp) _).alloc (by simp; omega) _
    have HF := Lib.hid (And.intro hz4 hb4)
    clear hz4 hb4
    go_enter Tryd.func25, Tryd.ntmps25
    go_wp2
    exact bodyPost_ret (results_ct (p := 6) (u := 7) (ty := 26) Tryd.results25 rfl HF.out.1 Tryd.underlying26 rfl (by kernel_rfl) rfl) rfl ⟨[.int .u8 0, .bool false, .int .i64 0, .string (bs []), .slice none 0 0, .slice none 0 0], rfl, by rw [HZ0.out]; exact zero_has' _ _, HF.out.2⟩
  subst hk
  rw [if_pos rfl]
  show Calls Tryd.prog 25 #[.agg #[.int .u8 6, .bool b, .int .i64 n, .string (bs s), .slice pl l.length cl, .slice pf f.length cf], .string (bs name), .agg #[.int .u8 (k1 : Int), .bool b1, .int .i64 n1, .string (bs s1), .slice pl1 l1.length cl1, .slice pf1 f1.length cf1]] w _
  go_enter Tryd.func25, Tryd.ntmps25
  go_upto_region 1 with (fail)
  generalize hW0 : World.alloc (World.alloc (World.alloc w _) _) _ = W0
  have hd1 : IsBlk W0 w.heap.size #[.int .u8 6, .bool b, .int .i64 n, .string (bs s), .slice pl l.length cl, .slice pf f.length cf] 26 := by rw [← hW0]; exact ((IsBlk.new _ _ _).alloc _).alloc _
  have hd3 : IsBlk W0 (w.heap.size + 1) #[.int .u8 (k1 : Int), .bool b1, .int .i64 n1, .string (bs s1), .slice pl1 l1.length cl1, .slice pf1 f1.length cf1] 26 := by rw [← hW0]; exact (IsBlk.new_at (by simp)).alloc _
  have hd4 : IsBlk W0 (w.heap.size + 1 + 1) #[.int .u8 0, .bool false, .int .i64 0, .string (bs []), .slice none 0 0, .slice none 0 0] 26 := by rw [← hW0]; exact IsBlk.new_at (by simp)
  have hb0 : Below w.heap.size w W0 := by rw [← hW0]; exact (((Below.refl _ _).alloc (Nat.le_refl _) _).alloc (by simp) _).alloc (by simp; omega) _
  have hlt4 : w.heap.size + 1 + 1 < W0.heap.size := hd4.lt
  clear hW0
  have x0 := hd1.cell (i := 0) rfl
  have x1 := hd1.cell (i := 1) rfl
  have x2 := hd1.cell (i := 2) rfl
  have x3 := hd1.cell (i := 3) rfl
  have x4 := hd1.cell (i := 4) rfl
  have x5 := hd1.cell (i := 5) rfl
  have HD3 := Lib.hid hd3
  have HD4 := Lib.hid hd4
  have HB0 := Lib.hid hb0
  have hlt1 := hd1.lt
  clear hd1 hd3 hd4 hb0
  go_wp2_with fail
  go_at_call 15
  refine (rcopy_any (.mk 6 b n s l f) _ _ W0 (HV.out.ext HB0.out)).mono ?_
  rintro e' w1 ⟨cs', rfl, _, hrows, hb1⟩
  obtain ⟨p1, c1, p2, c2, rfl, hlc, hcm, hnc2, hm2, hst⟩ := st_own hrows
  have hown : ∀ z, (Value.slice p2 f.length c2).ownBlock = some z → W0.heap.size ≤ z ∧ z < w1.heap.size := hst.2.1.lt
  have HST := Lib.hid hst
  have HOWN := Lib.hid hown
  have hz1 := hb1.size
  have HB1 := Lib.hid hb1
  clear hrows hst hown hb1 x0 x1 x2 x3 x4 x5
  go_upto_region 4 with (fail)
  generalize hW2 : World.alloc w1 _ = W2
  have hbo : IsBlk W2 w1.heap.size #[.int .u8 6, .bool b, .int .i64 n, .string (bs s), .slice p1 l.length c1, .slice p2 f.length c2] 26 := by rw [← hW2]; exact IsBlk.new _ _ _
  have hb12 : Below w1.heap.size w1 W2 := by rw [← hW2]; exact (Below.refl _ _).alloc (Nat.le_refl _) _
  have hlo := hbo.lt
  have y5 := hbo.cell (i := 5) rfl
  have hb02 : Below W0.heap.size W0 W2 := HB1.out.trans (hb12.mono hz1)
  have HBO := Lib.hid hbo
  have HB12 := Lib.hid hb12
  have HB02 := Lib.hid hb02
  have HZ2 := Lib.hid (HD4.out.ext hb02)
  have HD32 := Lib.hid (HD3.out.ext hb02)
  have HBW2 := Lib.hid (HB0.out.trans (hb02.mono HB0.out.size))
  have HXW2 := Lib.hid ((HX.out.ext HB0.out).ext hb02)
  have hsz02 := hb02.size
  have hsz12 := hb12.size
  have hszw0 := HB0.out.size
  clear hW2 hbo hb12 hb02
  go_wp2
  clear y5
  go_loopw [23] (fun i wr => ∃ (j : Nat), i = .int .i64 (j : Int) ∧ j ≤ f.length ∧ (∀ p ∈ f.take j, isName name p.1 = false) ∧ Below W2.heap.size W2 wr) (fun i _ => f.length - (intOf i).toNat)
  case atStart => exact ⟨0, rfl, Nat.zero_le _, fun p hp => by simp at hp, Below.refl _ _⟩
  case round =>
  obtain ⟨j, rfl, hj, hnone, hbw⟩ := hrel
  have HNONE := Lib.hid hnone
  have HBW := Lib.hid hbw
  have hszr := hbw.size
  have hst := HST.out.ext (below_ext HB12.out hbw)
  have hbo3 := HBO.out.ext hbw
  have y5 := hbo3.cell (i := 5) rfl
  have hl3 := hbo3.lt
  by_cases hlt : j < f.length
  · obtain ⟨g, cap, co, hv2, _, hgl, hnc, _, hfo, hcl7, hcells, hfz⟩ := (half_of_full hst.2.1 j).next hlt
    obtain ⟨e2, _, e3⟩ := Value.slice.inj hv2
    subst e2
    subst e3
    have hgo := HOWN.out g rfl
    obtain ⟨co2, rfl, hol, hov⟩ := hfo
    have n0 := hcells 0 (by omega)
    rw [Nat.add_zero] at n0
    have n0 : wr.cell? ⟨g, j * 7, none⟩ = some (.string (bs f[j].1)) := n0
    have hsn : isName name f[j].1 = false → ∀ p ∈ f.take (j + 1), isName name p.1 = false := fun h p hp => by
      rw [List.take_succ_eq_append_getElem hlt] at hp
      rcases List.mem_append.1 hp with hp | hp
      · exact HNONE.out p hp
      · rw [List.mem_singleton.1 hp]; exact h
    have hset := fun h => set_idx name (.mk k1 b1 n1 s1 l1 f1) f j hlt h HNONE.out
    have hany := fun h => putF_any (P := isName name) hlt h
    have HSN := Lib.hid hsn
    have HSET := Lib.hid hset
    have HANY := Lib.hid hany
    obtain ⟨nj, hnj⟩ : ∃ nj, nj = f[j].1 := ⟨_, rfl⟩
    obtain ⟨E, hE⟩ : ∃ E, E = isName name nj := ⟨_, rfl⟩
    have hxe : ((bs nj).toList == (bs name).toList) = E := by rw [tl_bs, tl_bs, hE]; rfl
    rw [← hnj] at n0
    have HNJ := Lib.hid hnj
    have HE := Lib.hid hE
    have HCE := Lib.hid hcells
    have HFZ := Lib.hid hfz
    have HST3 := Lib.hid hst
    have HBO3 := Lib.hid hbo3
    have hcol : co2.length = 6 := by simpa using hcl7
    obtain ⟨o0, o1, o2, o3, o4, o5, rfl⟩ : ∃ o0 o1 o2 o3 o4 o5, co2 = [o0, o1, o2, o3, o4, o5] := by
      match co2, hcol with
      | [o0, o1, o2, o3, o4, o5], _ => exact ⟨_, _, _, _, _, _, rfl⟩
    clear hsn hset hany hnj hE hcells hfz hst hbo3 hv2 hov hol hcol hcl7 hnone hbw
    cases E
    · go_wp2
      go_roundw
      case rel => exact ⟨j + 1, by go_num, hlt, HSN.out (by rw [← HNJ.out, ← HE.out]), HBW.out⟩
      case measure => simp [intOf]; omega
    · have hP : isName name f[j].1 = true := by rw [← HNJ.out, ← HE.out]
      have HRF : Hid (R = .mk 6 b n s l (f.set j (f[j].1, .mk k1 b1 n1 s1 l1 f1))) := Lib.hid (by rw [HR.out, putV, if_pos rfl, putF, if_pos (HANY.out hP), HSET.out hP])
      have hd34 := HD32.out.ext HBW.out
      have u0 := hd34.cell (i := 0) rfl
      have u1 := hd34.cell (i := 1) rfl
      have u2 := hd34.cell (i := 2) rfl
      have u3 := hd34.cell (i := 3) rfl
      have u4 := hd34.cell (i := 4) rfl
      have u5 := hd34.cell (i := 5) rfl
      have hl34 := hd34.lt
      have hltI : (j : Int) < (f.length : Int) := by omega
      clear hP hd34
      go_upto_region 8 with (fail)
      refine mixB_start [7] (Cls wr) (by kernel_rfl) (Cls.of ((Below.refl _ _).drew)) (fun hCw => ?_)
      refine mixB_flt (by kernel_rfl) [0, 1, 2, 3] 4 _ _ hCw (by kernel_rfl) ?_
      simp only [opsAt, List.map_cons, List.map_nil, List.toList_toArray, List.getD_cons_succ, List.getD_cons_zero]
      unfold Cls
      repeat (go_big_quiet_step (fail))
      refine wpQuiet_nil ?_
      (try rw [← Cls_def])
      refine mixB_ch (i := 4) (fuel := 3) (by kernel_rfl) (by kernel_rfl) ?_
      simp only [opsAt, List.map_cons, List.map_nil, List.toList_toArray, List.getD_cons_succ, List.getD_cons_zero]
      go_wp2_with (go_at_call 15; refine (rcopy_any (.mk k1 b1 n1 s1 l1 f1) _ _ _ (HXW2.out.ext (below_ext HBW.out hCw.below))).mono ?_; rintro e' w6 ⟨csx, rfl, hvx, _, hb6⟩; obtain ⟨px, cx', pfx, cfx, rfl, _⟩ := hasVal_mk.1 hvx; have hC6 := hCw.trans hb6)
      refine ThenB.mk (hC6) (fun hCw => ?_)
      refine mixB_flt (by kernel_rfl) [5, 6] 1 _ _ hCw (by kernel_rfl) ?_
      simp only [opsAt, List.map_cons, List.map_nil, List.toList_toArray, List.getD_cons_succ, List.getD_cons_zero]
      unfold Cls
      repeat (go_big_quiet_step (fail))
      refine wpQuiet_nil ?_
      (try rw [← Cls_def])
      refine mixB_end [7] (by kernel_rfl) ?_
      simp only [opsAt, List.map_cons, List.map_nil, List.toList_toArray, List.getD_cons_succ, List.getD_cons_zero]
      have hb46 : Below wr.heap.size wr w6 := hC6.below
      have hz6 := hb46.size
      have hvx2 : HasVal (fun z => wr.heap.size ≤ z ∧ z < w6.heap.size) w6 (.mk k1 b1 n1 s1 l1 f1) [.int .u8 (k1 : Int), .bool b1, .int .i64 n1, .string (bs s1), .slice px l1.length cx', .slice pfx f1.length cfx] := relV.lt (show HasVal (fun z => wr.heap.size ≤ z) w6 _ _ from hvx)
      have x0 := (hb46.cell (p := ⟨g, j * 7 + 1, none⟩) hgl).trans (HCE.out 1 (by omega))
      have x1 := (hb46.cell (p := ⟨g, j * 7 + 2, none⟩) hgl).trans (HCE.out 2 (by omega))
      have x2 := (hb46.cell (p := ⟨g, j * 7 + 3, none⟩) hgl).trans (HCE.out 3 (by omega))
      have x3 := (hb46.cell (p := ⟨g, j * 7 + 4, none⟩) hgl).trans (HCE.out 4 (by omega))
      have x4 := (hb46.cell (p := ⟨g, j * 7 + 5, none⟩) hgl).trans (HCE.out 5 (by omega))
      have x5 := (hb46.cell (p := ⟨g, j * 7 + 6, none⟩) hgl).trans (HCE.out 6 (by omega))
      have hgb := hb46.block g hgl
      have z0 := (frozen_block (o := j * 7 + 1) hgb).trans (HFZ.out _)
      have z1 := (frozen_block (o := j * 7 + 2) hgb).trans (HFZ.out _)
      have z2 := (frozen_block (o := j * 7 + 3) hgb).trans (HFZ.out _)
      have z3 := (frozen_block (o := j * 7 + 4) hgb).trans (HFZ.out _)
      have z4 := (frozen_block (o := j * 7 + 5) hgb).trans (HFZ.out _)
      have z5 := (frozen_block (o := j * 7 + 6) hgb).trans (HFZ.out _)
      have hst6 : StF W0.heap.size (fun z => ((W0.heap.size ≤ z ∧ (Value.slice (some ⟨g, 0, none⟩) f.length c2).ownBlock ≠ some z) ∧ z < w1.heap.size) ∨ (wr.heap.size ≤ z ∧ z < w6.heap.size)) w6 p1 l (.slice (some ⟨g, 0, none⟩) f.length c2) f := (HST3.out.ext hb46).more (fun z hz => .inl hz) (fun z hz => by
        rcases hz with hz | hz
        · exact hz.1
        · exact ⟨by omega, fun e => by have := (HOWN.out z e).2; omega⟩)
      have hDg : ∀ z, (fun z => ((W0.heap.size ≤ z ∧ (Value.slice (some ⟨g, 0, none⟩) f.length c2).ownBlock ≠ some z) ∧ z < w1.heap.size) ∨ (wr.heap.size ≤ z ∧ z < w6.heap.size)) z → z ≠ g := fun z hz e => (hst6.2.2 z hz).2 (by rw [e]; rfl)
      have hset := hst6.2.1.setV hlt (hvx2.ext_to (fun z hz => .inr hz) (fun _ _ _ => rfl)) hDg
      have hst9 : StF W0.heap.size (fun z => ((W0.heap.size ≤ z ∧ (Value.slice (some ⟨g, 0, none⟩) f.length c2).ownBlock ≠ some z) ∧ z < w1.heap.size) ∨ (wr.heap.size ≤ z ∧ z < w6.heap.size)) (w6.setCells g (j * 7 + 1) [.int .u8 (k1 : Int), .bool b1, .int .i64 n1, .string (bs s1), .slice px l1.length cx', .slice pfx f1.length cfx]) p1 l (.slice (some ⟨g, 0, none⟩) f.length c2) (f.set j (f[j].1, .mk k1 b1 n1 s1 l1 f1)) :=
        ⟨hst6.1.ext_to (fun _ h => h) (fun z hz _ => other_setCells (hDg z hz) _ _ _), hset, hst6.2.2⟩
      have hbo6 := HBO3.out.ext hb46
      have hbo9 : IsBlk (w6.setCells g (j * 7 + 1) [.int .u8 (k1 : Int), .bool b1, .int .i64 n1, .string (bs s1), .slice px l1.length cx', .slice pfx f1.length cfx]) w1.heap.size #[.int .u8 6, .bool b, .int .i64 n, .string (bs s), .slice p1 l.length c1, .slice (some ⟨g, 0, none⟩) f.length c2] 26 := (other_setCells (by omega) _ _ _).trans hbo6
      have hz49 : IsBlk (w6.setCells g (j * 7 + 1) [.int .u8 (k1 : Int), .bool b1, .int .i64 n1, .string (bs s1), .slice px l1.length cx', .slice pfx f1.length cfx]) (w.heap.size + 1 + 1) ([.int .u8 0, .bool false, .int .i64 0, .string (bs []), .slice none 0 0, .slice none 0 0] : List Value).toArray 26 := (other_setCells (by omega) _ _ _).trans ((HZ2.out.ext HBW.out).ext hb46)
      have hb9 : Below w.heap.size w (w6.setCells g (j * 7 + 1) [.int .u8 (k1 : Int), .bool b1, .int .i64 n1, .string (bs s1), .slice px l1.length cx', .slice pfx f1.length cfx]) := below_setCells (by omega) _ _ _ (HBW2.out.trans ((HBW.out.trans (hb46.mono (by omega))).mono (by omega)))
      have hs9 : (w6.setCells g (j * 7 + 1) [.int .u8 (k1 : Int), .bool b1, .int .i64 n1, .string (bs s1), .slice px l1.length cx', .slice pfx f1.length cfx]).heap.size = w6.heap.size := size_setCells _ _ _ _
      obtain ⟨W9, hW9⟩ : ∃ W9, W9 = w6.setCells g (j * 7 + 1) [.int .u8 (k1 : Int), .bool b1, .int .i64 n1, .string (bs s1), .slice px l1.length cx', .slice pfx f1.length cfx] := ⟨_, rfl⟩
      rw [← hW9] at hst9 hbo9 hz49 hb9 hs9
      have HF9 := Lib.hid (And.intro hst9 (And.intro hbo9 (And.intro hz49 (And.intro hb9 hs9))))
      have HW9 := Lib.hid hW9
      clear hst9 hbo9 hz49 hb9 hs9 hW9 hset hDg hst6 hbo6 hgb hvx2 hvx hb6 hCw u0 u1 u2 u3 u4 u5 hb46 hC6
      go_wp2
      refine Calm.normal ?_
      clear x0 x1 x2 x3 x4 x5 z0 z1 z2 z3 z4 z5 y5
      generalize hW8 : World.setCell _ _ _ = W8
      have e9 : W9 = W8 := by rw [HW9.out, ← hW8]; rfl
      subst e9
      clear hW8
      obtain ⟨hst9, hbo9, hz9, hb9, hs9⟩ := HF9.out
      have hend : ∀ W, (∀ z, z ≠ w.heap.size + 1 + 1 → W.heap[z]? = W9.heap[z]?) → HasVal (fun z => w.heap.size ≤ z) W R [.int .u8 6, .bool b, .int .i64 n, .string (bs s), .slice p1 l.length c1, .slice (some ⟨g, 0, none⟩) f.length c2] := by
        intro W ho
        rw [HRF.out]
        have hbd := HBD.out
        have hstW := hst9.kept (w' := W) (fun z hz => ho z (by have := (HOWN.out z hz).1; omega)) (fun z hz _ => ho z (by have := (hst9.2.2 z hz).1; omega))
        exact (st_fin hstW (by rw [List.length_set]) ⟨hbd.1, hbd.2.1, hbd.2.2.1, hbd.2.2.2.1, hbd.2.2.2.2.1⟩ hlc hcm (by rw [List.length_set]; omega) (B' := w.heap.size) (by omega)).1
      have v0 := hbo9.cell (i := 0) rfl
      have v1 := hbo9.cell (i := 1) rfl
      have v2 := hbo9.cell (i := 2) rfl
      have v3 := hbo9.cell (i := 3) rfl
      have v4 := hbo9.cell (i := 4) rfl
      have v5 := hbo9.cell (i := 5) rfl
      have z0 := hz9.cell (i := 0) rfl
      have z1 := hz9.cell (i := 1) rfl
      have z2 := hz9.cell (i := 2) rfl
      have z3 := hz9.cell (i := 3) rfl
      have z4 := hz9.cell (i := 4) rfl
      have z5 := hz9.cell (i := 5) rfl
      have fz0 := hz9.frozen 0
      have fz1 := hz9.frozen 1
      have fz2 := hz9.frozen 2
      have fz3 := hz9.frozen 3
      have fz4 := hz9.frozen 4
      have fz5 := hz9.frozen 5
      have hl9 := hbo9.lt
      have hlz9 := hz9.lt
      have hze := And.intro (blk_setCells [.int .u8 6, .bool b, .int .i64 n, .string (bs s), .slice p1 l.length c1, .slice (some ⟨g, 0, none⟩) f.length c2] 0 W9 [.int .u8 0, .bool false, .int .i64 0, .string (bs []), .slice none 0 0, .slice none 0 0] hz9) (And.intro (hend _ (fun z hz => other_setCells hz [.int .u8 6, .bool b, .int .i64 n, .string (bs s), .slice p1 l.length c1, .slice (some ⟨g, 0, none⟩) f.length c2] 0 W9)) (below_setCells (B := w.heap.size) (w0 := w) (show w.heap.size ≤ w.heap.size + 1 + 1 by omega) [.int .u8 6, .bool b, .int .i64 n, .string (bs s), .slice p1 l.length c1, .slice (some ⟨g, 0, none⟩) f.length c2] 0 W9 hb9))
      have HFN := Lib.hid hze
      clear hbo9 hb9 hz9 hend hze hst9 HF9 HW9 hs9
      go_wp2
      exact bodyPost_ret (results_ct (p := 6) (u := 7) (ty := 26) Tryd.results25 rfl HFN.out.1 Tryd.underlying26 rfl (by kernel_rfl) rfl) rfl ⟨[.int .u8 6, .bool b, .int .i64 n, .string (bs s), .slice p1 l.length c1, .slice (some ⟨g, 0, none⟩) f.length c2], rfl, HFN.out.2.1, HFN.out.2.2⟩
  · obtain rfl : j = f.length := by omega
    have hany : (f.any fun p => isName name p.1) = false := any_none (fun p hp => HNONE.out p (by rw [List.take_length]; exact hp))
    have HRF : Hid (R = .mk 6 b n s l (insF name (.mk k1 b1 n1 s1 l1 f1) f)) := Lib.hid (by rw [HR.out, putV, if_pos rfl, putF, hany, if_neg (by decide)])
    have hst3 := hst
    clear hst hany hlt hnone
    have HST3 := Lib.hid hst3
    have HBO3 := Lib.hid hbo3
    have HZ3 := Lib.hid (HZ2.out.ext HBW.out)
    have HD33 := Lib.hid (HD32.out.ext HBW.out)
    have HBW3 := Lib.hid (HBW2.out.trans (HBW.out.mono (by omega)))
    have HXW3 := Lib.hid (HXW2.out.ext (HBW.out.mono (Nat.le_refl _)))
    clear hst3 hbo3 hbw HNONE
    obtain ⟨B2, hB2⟩ : ∃ B2, B2 = wr.heap.size := ⟨_, rfl⟩
    have hB2a : w1.heap.size < B2 := by omega
    have hQD0 : ∀ z, (fun z => (W0.heap.size ≤ z ∧ (Value.slice p2 f.length c2).ownBlock ≠ some z) ∧ z < w1.heap.size) z → z < B2 := fun z hz => by have := hz.2; omega
    have hQW0 : ∀ z, (fun z => (W0.heap.size ≤ z ∧ (Value.slice p2 f.length c2).ownBlock ≠ some z) ∧ z < w1.heap.size) z → W0.heap.size ≤ z ∧ z < w1.heap.size := fun z hz => ⟨hz.1.1, hz.2⟩
    obtain ⟨Dq, hDq⟩ : ∃ Dq, Dq = (fun z => (W0.heap.size ≤ z ∧ (Value.slice p2 f.length c2).ownBlock ≠ some z) ∧ z < w1.heap.size) := ⟨_, rfl⟩
    have hQD : ∀ z, Dq z → z < B2 := by rw [hDq]; exact hQD0
    have HQW : Hid (∀ z, Dq z → W0.heap.size ≤ z ∧ z < w1.heap.size) := Lib.hid (by rw [hDq]; exact hQW0)
    rw [← hDq] at HST3
    clear hQD0 hQW0 hDq
    have HQD := Lib.hid hQD
    obtain ⟨W3, hW3⟩ : ∃ W3, W3 = wr := ⟨_, rfl⟩
    rw [← hW3] at HST3 HBO3 HZ3 HD33 HBW3 HXW3 hB2
    have HB2 := Lib.hid hB2
    clear hQD hB2 HBW HBW2 HXW2 HZ2 HD32 hl3 hszr hj
    subst hW3
    go_wp2
    clear y5
    go_loopw [10, 11, 46] (fun a1 a2 a3 wr => ∃ (j : Nat) (put : Bool) (ol : List (List UInt8 × DVal)), a2 = .bool put ∧ a3 = .int .i64 (j : Int) ∧ j ≤ f.length ∧ Full HasFld 7 B2 (NewD Dq B2 a1) 38 wr a1 ol ∧ ol ++ insP name (.mk k1 b1 n1 s1 l1 f1) put (f.drop j) = insF name (.mk k1 b1 n1 s1 l1 f1) f ∧ ol.length ≤ j + put.toNat ∧ Below W3.heap.size W3 wr) (fun _ _ a3 _ => f.length - (intOf a3).toNat)
    case atStart => exact ⟨0, false, [], rfl, rfl, Nat.zero_le _, full_nil _ _ _ _, rfl, by simp, Below.refl _ _⟩
    case round =>
    obtain ⟨j, put, ol, rfl, rfl, hj, hfu, hins, hol', hbw⟩ := hrel
    have HOL := Lib.hid hol'
    have hol : ol.length ≤ j + 1 := by cases put <;> simp at hol' <;> omega
    clear hol'
    obtain ⟨q3, d3, rfl, hnd3, hmd3⟩ := hfu.slice
    have HFU := Lib.hid hfu
    have HINS := Lib.hid hins
    have HBW := Lib.hid hbw
    have hszr := hbw.size
    have hown3 : ∀ z, (Value.slice q3 ol.length d3).ownBlock = some z → B2 ≤ z ∧ z < wr.heap.size := hfu.lt
    have HOW3 := Lib.hid hown3
    have hst := HST3.out.ext hbw
    by_cases hlt : j < f.length
    · obtain ⟨g, c, cu, hp, hBg, hgl, hxl, hvu, hcu⟩ := hst.2.1.at hlt
      obtain ⟨ep1, _, ep3⟩ := Value.slice.inj hp
      subst ep1
      subst ep3
      have hdr : f.drop j = f[j] :: f.drop (j + 1) := List.drop_eq_getElem_cons hlt
      generalize hu : f[j] = fu at hvu hxl hcu hdr
      obtain ⟨xn, u⟩ := fu
      simp only [] at hvu hxl hcu
      have HXL := Lib.hid hxl
      have HV2 := Lib.hid hvu
      have HDR := Lib.hid hdr
      obtain ⟨k2, b2, n2, s2, l2, f2⟩ := u
      obtain ⟨pl2, cl2, pf2, cf2, rfl, _⟩ := hasVal_mk.1 hvu
      obtain ⟨e0, e1, e2, e3, e4, e5, e6⟩ := hcu.seven
      rw [Nat.zero_add] at e0 e1 e2 e3 e4 e5 e6
      have hd3r := HD33.out.ext hbw
      have u0 := hd3r.cell (i := 0) rfl
      have u1 := hd3r.cell (i := 1) rfl
      have u2 := hd3r.cell (i := 2) rfl
      have u3 := hd3r.cell (i := 3) rfl
      have u4 := hd3r.cell (i := 4) rfl
      have u5 := hd3r.cell (i := 5) rfl
      have hld3 := hd3r.lt
      clear hvu hu hcu hxl hfu hbw hown3 hst hp hins hdr hd3r
      have hbx : Below wr.heap.size wr (wr.alloc (.cells #[.string (bs xn), .int .u8 (k2 : Int), .bool b2, .int .i64 n2, .string (bs s2), .slice pl2 l2.length cl2, .slice pf2 f2.length cf2] 38)) := (Below.refl _ _).alloc (Nat.le_refl _) _
      have HBX := Lib.hid hbx
      clear hbx
      obtain ⟨L, hL⟩ : ∃ L, L = Op.bytesLess xn name := ⟨_, rfl⟩
      obtain ⟨E, hE⟩ : ∃ E, E = isName name xn := ⟨_, rfl⟩
      have hxe : ((bs xn).toList == (bs name).toList) = E := by rw [tl_bs, tl_bs, hE]; rfl
      have hxl : Op.bytesLess (bs xn).toList (bs name).toList = L := by rw [tl_bs, tl_bs, hL]
      have hab : isAbove name xn = (!L && !E) := by rw [hL, hE]; rfl
      have HAB := Lib.hid hab
      clear hL hE hab
      by_cases hC : put = false ∧ L = false ∧ E = false
      · obtain ⟨rfl, rfl, rfl⟩ := hC
        have HI2 : Hid ((ol ++ [(name, .mk k1 b1 n1 s1 l1 f1)]) ++ [(xn, .mk k2 b2 n2 s2 l2 f2)] ++ insP name (.mk k1 b1 n1 s1 l1 f1) true (f.drop (j + 1)) = insF name (.mk k1 b1 n1 s1 l1 f1) f) := Lib.hid (by
          rw [← HINS.out, HDR.out]
          show _ = ol ++ insF name (.mk k1 b1 n1 s1 l1 f1) ((xn, .mk k2 b2 n2 s2 l2 f2) :: f.drop (j + 1))
          rw [insF, if_pos (by rw [HAB.out]; rfl)]
          simp [insP])
        go_wp2_with fail
        go_at_call 15
        refine (rcopy_any (.mk k1 b1 n1 s1 l1 f1) _ _ _ (HXW3.out.ext (below_ext HBW.out HBX.out))).mono ?_
        rintro e' w6 ⟨csx, rfl, hvx, _, hb6⟩
        obtain ⟨px, cx', pfx, cfx, rfl, _⟩ := hasVal_mk.1 hvx
        have hbr6 := below_ext HBX.out hb6
        have hs6 := hbr6.size
        have hvx2 : HasVal (fun z => wr.heap.size ≤ z) w6 (.mk k1 b1 n1 s1 l1 f1) [.int .u8 (k1 : Int), .bool b1, .int .i64 n1, .string (bs s1), .slice px l1.length cx', .slice pfx f1.length cfx] := HasVal.ext_to (S := fun z => (wr.alloc (.cells #[.string (bs xn), .int .u8 (k2 : Int), .bool b2, .int .i64 n2, .string (bs s2), .slice pl2 l2.length cl2, .slice pf2 f2.length cf2] 38)).heap.size ≤ z) hvx (fun z hz => Nat.le_trans HBX.out.size hz) (fun _ _ _ => rfl)
        have hb67 : Below w6.heap.size w6 (w6.alloc (.cells ((.string (bs name) :: [.int .u8 (k1 : Int), .bool b1, .int .i64 n1, .string (bs s1), .slice px l1.length cx', .slice pfx f1.length cfx]) : List Value).toArray 38)) := (Below.refl _ _).alloc (Nat.le_refl _) _
        have hbr7 := below_ext hbr6 hb67
        have hq6 : IsBlk (w6.alloc (.cells ((.string (bs name) :: [.int .u8 (k1 : Int), .bool b1, .int .i64 n1, .string (bs s1), .slice px l1.length cx', .slice pfx f1.length cfx]) : List Value).toArray 38)) wr.heap.size #[.string (bs xn), .int .u8 (k2 : Int), .bool b2, .int .i64 n2, .string (bs s2), .slice pl2 l2.length cl2, .slice pf2 f2.length cf2] 38 := ((IsBlk.new wr #[.string (bs xn), .int .u8 (k2 : Int), .bool b2, .int .i64 n2, .string (bs s2), .slice pl2 l2.length cl2, .slice pf2 f2.length cf2] 38).ext hb6).ext hb67
        have HQ6 := Lib.hid hq6
        have HBR7 := Lib.hid hbr7
        have HFU6 := Lib.hid (HFU.out.ext relF hbr7)
        have hy : HasFld (NewD Dq B2 (.slice q3 ol.length d3)) (w6.alloc (.cells ((.string (bs name) :: [.int .u8 (k1 : Int), .bool b1, .int .i64 n1, .string (bs s1), .slice px l1.length cx', .slice pfx f1.length cfx]) : List Value).toArray 38)) (name, .mk k1 b1 n1 s1 l1 f1) (.string (bs name) :: [.int .u8 (k1 : Int), .bool b1, .int .i64 n1, .string (bs s1), .slice px l1.length cx', .slice pfx f1.length cfx]) :=
          ⟨[.int .u8 (k1 : Int), .bool b1, .int .i64 n1, .string (bs s1), .slice px l1.length cx', .slice pfx f1.length cfx], rfl, hnl, hvx2.ext_to (fun z hz => .inr ⟨by have h6 : wr.heap.size ≤ z := hz; have h7 := HB2.out; omega, fun e => by have h6 : wr.heap.size ≤ z := hz; have h7 := (HOW3.out z e).2; omega⟩) (fun z _ hlt => hb67.block z hlt)⟩
        have HY := Lib.hid hy
        clear hvx hvx2 hb6 hbr6 hb67 hbr7 hq6 hy e0 e1 e2 e3 e4 e5 e6 u0 u1 u2 u3 u4 u5
        go_wp2_with (at_builtin; refine push_new B2 Dq HQD.out rfl _ _ 24 38 (.agg #[.string ⟨#[]⟩, .int .u8 0, .bool false, .int .i64 0, .string ⟨#[]⟩, .slice none 0 0, .slice none 0 0]) 96 rfl Tryd.underlying24 (by kernel_rfl) rfl _ ol HFU6.out w6.heap.size (.string (bs name) :: [.int .u8 (k1 : Int), .bool b1, .int .i64 n1, .string (bs s1), .slice px l1.length cx', .slice pfx f1.length cfx]) (name, .mk k1 b1 n1 s1 l1 f1) (IsBlk.new _ _ _) HY.out rfl rfl (by have h7 := HBR7.out.size; have h8 := HB2.out; omega) (by omega) (by unfold maxLen; omega) ?_)
        intro g1 cap w7 HF7 HG7 hB1 hlt7
        have hq7 := blk_grown HQ6.out HG7.out (fun e => by have := (HOW3.out _ e).2; omega)
        have HQ7 := Lib.hid hq7
        have hl7 := hq7.lt
        have r0 := hq7.cell (i := 0) rfl
        have r1 := hq7.cell (i := 1) rfl
        have r2 := hq7.cell (i := 2) rfl
        have r3 := hq7.cell (i := 3) rfl
        have r4 := hq7.cell (i := 4) rfl
        have r5 := hq7.cell (i := 5) rfl
        have r6 := hq7.cell (i := 6) rfl
        have hb78 : Below w7.heap.size w7 (w7.alloc (.cells #[.string (bs xn), .int .u8 (k2 : Int), .bool b2, .int .i64 n2, .string (bs s2), .slice pl2 l2.length cl2, .slice pf2 f2.length cf2] 38)) := (Below.refl _ _).alloc (Nat.le_refl _) _
        have HF78 := Lib.hid (HF7.out.ext relF hb78)
        have hwr7 : ∀ z, z < B2 → z < wr.heap.size → w7.heap[z]? = wr.heap[z]? := fun z hz hlt => (HG7.out.block z (Nat.lt_of_lt_of_le hlt HBR7.out.size) (fun e => by have := (HOW3.out z e.symm).1; omega)).trans (HBR7.out.block z hlt)
        have hy2 : HasFld (NewD Dq B2 (.slice (some ⟨g1, 0, none⟩) (ol.length + 1) cap)) (w7.alloc (.cells #[.string (bs xn), .int .u8 (k2 : Int), .bool b2, .int .i64 n2, .string (bs s2), .slice pl2 l2.length cl2, .slice pf2 f2.length cf2] 38)) (xn, .mk k2 b2 n2 s2 l2 f2) [.string (bs xn), .int .u8 (k2 : Int), .bool b2, .int .i64 n2, .string (bs s2), .slice pl2 l2.length cl2, .slice pf2 f2.length cf2] :=
          ⟨_, rfl, HXL.out, HV2.out.ext_to (fun z hz => .inl hz) (fun z hz hlt => (hb78.block z (by have h8 := HBR7.out.size; have h9 := HG7.out.size; omega)).trans (hwr7 z (HQD.out z hz) hlt))⟩
        have HY2 := Lib.hid hy2
        have HB7 := Lib.hid (below_grown (below_ext HBW.out HBR7.out) HG7.out (by have h7 := HBR7.out.size; omega) (fun z hz => by have := (HOW3.out z hz).1; have h7 := HB2.out; omega))
        have hs7 := HB7.out.size
        clear hq7 hb78 hwr7 hy2 HQ6 HG7
        go_wp2_with (at_builtin; refine push_new B2 Dq HQD.out rfl _ _ 24 38 (.agg #[.string ⟨#[]⟩, .int .u8 0, .bool false, .int .i64 0, .string ⟨#[]⟩, .slice none 0 0, .slice none 0 0]) 96 rfl Tryd.underlying24 (by kernel_rfl) rfl _ (ol ++ [(name, .mk k1 b1 n1 s1 l1 f1)]) HF78.out w7.heap.size [.string (bs xn), .int .u8 (k2 : Int), .bool b2, .int .i64 n2, .string (bs s2), .slice pl2 l2.length cl2, .slice pf2 f2.length cf2] (xn, .mk k2 b2 n2 s2 l2 f2) (IsBlk.new _ _ _) HY2.out rfl rfl (by have h8 := HB2.out; simp; omega) (by rw [List.length_append]; simp; omega) (by rw [List.length_append]; unfold maxLen; simp; omega) ?_)
        intro g2 cap2 w8 HF8 HG8 hB8 hlt8
        have HB8 := Lib.hid (below_grown (below_ext HB7.out ((Below.refl _ _).alloc (Nat.le_refl _) (.cells #[.string (bs xn), .int .u8 (k2 : Int), .bool b2, .int .i64 n2, .string (bs s2), .slice pl2 l2.length cl2, .slice pf2 f2.length cf2] 38))) HG8.out (by simp; omega) (fun z hz => by have e : g1 = z := Option.some.inj hz; have h7 := HB2.out; omega))
        clear HG8 r0 r1 r2 r3 r4 r5 r6 hxe hxl
        go_wp2
        go_roundw
        case rel => exact ⟨j + 1, true, ol ++ [(name, .mk k1 b1 n1 s1 l1 f1), (xn, .mk k2 b2 n2 s2 l2 f2)], rfl, by go_num, hlt, HF8.out, by simpa using HI2.out, by have h9 := HOL.out; simp at h9 ⊢; omega, HB8.out⟩
        case measure => simp [intOf]; omega
      · have hI2 : ol ++ [(xn, .mk k2 b2 n2 s2 l2 f2)] ++ insP name (.mk k1 b1 n1 s1 l1 f1) put (f.drop (j + 1)) = insF name (.mk k1 b1 n1 s1 l1 f1) f := by
          rw [← HINS.out, HDR.out]
          cases put
          · show _ = ol ++ insF name (.mk k1 b1 n1 s1 l1 f1) ((xn, .mk k2 b2 n2 s2 l2 f2) :: f.drop (j + 1))
            rw [insF, if_neg (by
              rw [HAB.out]
              intro h
              apply hC
              cases L <;> cases E <;> simp_all)]
            simp [insP]
          · simp [insP]
        have HI2 := Lib.hid hI2
        have hsp : put = true ∨ (put = false ∧ L = true) ∨ (put = false ∧ L = false ∧ E = true) := by
          cases put <;> cases L <;> cases E <;> simp_all
        have hw5 : Below wr.heap.size wr ((wr.alloc (.cells #[.string (bs xn), .int .u8 (k2 : Int), .bool b2, .int .i64 n2, .string (bs s2), .slice pl2 l2.length cl2, .slice pf2 f2.length cf2] 38)).alloc (.cells #[.string (bs xn), .int .u8 (k2 : Int), .bool b2, .int .i64 n2, .string (bs s2), .slice pl2 l2.length cl2, .slice pf2 f2.length cf2] 38)) := ((Below.refl _ _).alloc (Nat.le_refl _) _).alloc (by simp) _
        have HW5 := Lib.hid hw5
        have HFU5 := Lib.hid (HFU.out.ext relF hw5)
        have hy : HasFld (NewD Dq B2 (.slice q3 ol.length d3)) ((wr.alloc (.cells #[.string (bs xn), .int .u8 (k2 : Int), .bool b2, .int .i64 n2, .string (bs s2), .slice pl2 l2.length cl2, .slice pf2 f2.length cf2] 38)).alloc (.cells #[.string (bs xn), .int .u8 (k2 : Int), .bool b2, .int .i64 n2, .string (bs s2), .slice pl2 l2.length cl2, .slice pf2 f2.length cf2] 38)) (xn, .mk k2 b2 n2 s2 l2 f2) [.string (bs xn), .int .u8 (k2 : Int), .bool b2, .int .i64 n2, .string (bs s2), .slice pl2 l2.length cl2, .slice pf2 f2.length cf2] := ⟨_, rfl, HXL.out, (HV2.out.ext hw5).ext_to (fun z hz => .inl hz) (fun _ _ _ => rfl)⟩
        have HY := Lib.hid hy
        clear hw5 hy hI2 hC u0 u1 u2 u3 u4 u5
        rcases hsp with rfl | ⟨rfl, rfl⟩ | ⟨rfl, rfl, rfl⟩
        all_goals
          go_wp2_with (at_builtin; refine push_new B2 Dq HQD.out rfl _ _ 24 38 (.agg #[.string ⟨#[]⟩, .int .u8 0, .bool false, .int .i64 0, .string ⟨#[]⟩, .slice none 0 0, .slice none 0 0]) 96 rfl Tryd.underlying24 (by kernel_rfl) rfl _ ol HFU5.out (wr.heap.size + 1) [.string (bs xn), .int .u8 (k2 : Int), .bool b2, .int .i64 n2, .string (bs s2), .slice pl2 l2.length cl2, .slice pf2 f2.length cf2] (xn, .mk k2 b2 n2 s2 l2 f2) (IsBlk.new_at (by simp)) HY.out rfl rfl (by have h8 := HB2.out; simp; omega) (by omega) (by unfold maxLen; omega) ?_)
          intro g1 cap w7 HF7 HG7 hB1 hlt7
          have HB7 := Lib.hid (below_grown (below_ext HBW.out HW5.out) HG7.out (by simp; omega) (fun z hz => by have := (HOW3.out z hz).1; have h7 := HB2.out; omega))
          clear HG7 hxe hxl e0 e1 e2 e3 e4 e5 e6
          go_wp2
          go_roundw
          case rel => exact ⟨j + 1, _, ol ++ [(xn, .mk k2 b2 n2 s2 l2 f2)], rfl, by go_num, hlt, HF7.out, HI2.out, by have h9 := HOL.out; simp at h9 ⊢; omega, HB7.out⟩
          case measure => simp [intOf]; omega
    · obtain rfl : j = f.length := by omega
      have hdl : f.drop f.length = [] := List.drop_length ..
      have hdr3 := HD33.out.ext hbw
      have hbo4 := HBO3.out.ext hbw
      have hz4 := HZ3.out.ext hbw
      have hb4 := HBW3.out.trans (hbw.mono HBW3.out.size)
      have hfin : ∀ (W : World) (q4 : Option Addr) (n4 d4 : Nat), Full HasFld 7 B2 (NewD Dq B2 (.slice q4 n4 d4)) 38 W (.slice q4 n4 d4) (insF name (.mk k1 b1 n1 s1 l1 f1) f) → n4 = (insF name (.mk k1 b1 n1 s1 l1 f1) f).length → (∀ z, Dq z → W.heap[z]? = W3.heap[z]?) → HasVal (fun z => w.heap.size ≤ z) W R [.int .u8 6, .bool b, .int .i64 n, .string (bs s), .slice p1 l.length c1, .slice q4 n4 d4] := by
        intro W q4 n4 d4 hF hn hb
        rw [HRF.out]
        have hbd := HBD.out
        have hs3 : HasL Dq W p1 l := HST3.out.1.ext_to (fun _ h => h) (fun z hz _ => hb z hz)
        have hB2e := HB2.out
        have hstW : StF W0.heap.size (NewD Dq B2 (.slice q4 n4 d4)) W p1 l (.slice q4 n4 d4) (insF name (.mk k1 b1 n1 s1 l1 f1) f) :=
          ⟨hs3.ext_to (fun z hz => .inl hz) (fun _ _ _ => rfl), full_base hF (by omega), fun z hz => by
            rcases hz with hz | hz
            · exact ⟨(HQW.out z hz).1, fun e => by have h1 := (hF.lt z e).1; have h2 := (HQD.out z hz); omega⟩
            · exact ⟨by omega, hz.2⟩⟩
        exact (st_fin hstW hn ⟨hbd.1, hbd.2.1, hbd.2.2.1, hbd.2.2.2.1, hbd.2.2.2.2.1⟩ hlc hcm (by rw [insF_length]; omega) (B' := w.heap.size) (by omega)).1
      have HFIN := Lib.hid hfin
      have HBO4 := Lib.hid hbo4
      have HZ4 := Lib.hid hz4
      have u0 := hdr3.cell (i := 0) rfl
      have u1 := hdr3.cell (i := 1) rfl
      have u2 := hdr3.cell (i := 2) rfl
      have u3 := hdr3.cell (i := 3) rfl
      have u4 := hdr3.cell (i := 4) rfl
      have u5 := hdr3.cell (i := 5) rfl
      have hl33 := hdr3.lt
      clear hst hfin hbo4 hz4 hb4 hdr3 hlt hfu hbw hown3
      cases put
      · have HI2 : Hid (ol ++ [(name, .mk k1 b1 n1 s1 l1 f1)] = insF name (.mk k1 b1 n1 s1 l1 f1) f) := Lib.hid (by rw [← HINS.out, hdl]; rfl)
        clear hdl
        go_wp2_with fail
        go_at_call 15
        refine (rcopy_any (.mk k1 b1 n1 s1 l1 f1) _ _ _ (HXW3.out.ext HBW.out)).mono ?_
        rintro e' w6 ⟨csx, rfl, hvx, _, hbr6⟩
        obtain ⟨px, cx', pfx, cfx, rfl, _⟩ := hasVal_mk.1 hvx
        have hs6 := hbr6.size
        have hvx2 : HasVal (fun z => wr.heap.size ≤ z) w6 (.mk k1 b1 n1 s1 l1 f1) [.int .u8 (k1 : Int), .bool b1, .int .i64 n1, .string (bs s1), .slice px l1.length cx', .slice pfx f1.length cfx] := hvx
        have hb67 : Below w6.heap.size w6 (w6.alloc (.cells ((.string (bs name) :: [.int .u8 (k1 : Int), .bool b1, .int .i64 n1, .string (bs s1), .slice px l1.length cx', .slice pfx f1.length cfx]) : List Value).toArray 38)) := (Below.refl _ _).alloc (Nat.le_refl _) _
        have hbr7 := below_ext hbr6 hb67
        have HBR7 := Lib.hid hbr7
        have HFU6 := Lib.hid (HFU.out.ext relF hbr7)
        have hy : HasFld (NewD Dq B2 (.slice q3 ol.length d3)) (w6.alloc (.cells ((.string (bs name) :: [.int .u8 (k1 : Int), .bool b1, .int .i64 n1, .string (bs s1), .slice px l1.length cx', .slice pfx f1.length cfx]) : List Value).toArray 38)) (name, .mk k1 b1 n1 s1 l1 f1) (.string (bs name) :: [.int .u8 (k1 : Int), .bool b1, .int .i64 n1, .string (bs s1), .slice px l1.length cx', .slice pfx f1.length cfx]) :=
          ⟨[.int .u8 (k1 : Int), .bool b1, .int .i64 n1, .string (bs s1), .slice px l1.length cx', .slice pfx f1.length cfx], rfl, hnl, hvx2.ext_to (fun z hz => .inr ⟨by have h6 : wr.heap.size ≤ z := hz; have h7 := HB2.out; omega, fun e => by have h6 : wr.heap.size ≤ z := hz; have h7 := (HOW3.out z e).2; omega⟩) (fun z _ hlt => hb67.block z hlt)⟩
        have HY := Lib.hid hy
        clear hvx hvx2 hbr6 hb67 hbr7 hy u0 u1 u2 u3 u4 u5
        go_wp2_with (at_builtin; refine push_new B2 Dq HQD.out rfl _ _ 24 38 (.agg #[.string ⟨#[]⟩, .int .u8 0, .bool false, .int .i64 0, .string ⟨#[]⟩, .slice none 0 0, .slice none 0 0]) 96 rfl Tryd.underlying24 (by kernel_rfl) rfl _ ol HFU6.out w6.heap.size (.string (bs name) :: [.int .u8 (k1 : Int), .bool b1, .int .i64 n1, .string (bs s1), .slice px l1.length cx', .slice pfx f1.length cfx]) (name, .mk k1 b1 n1 s1 l1 f1) (IsBlk.new _ _ _) HY.out rfl rfl (by have h7 := HBR7.out.size; have h8 := HB2.out; omega) (by omega) (by unfold maxLen; omega) ?_)
        intro g1 cap w7 HF7 HG7 hB1 hlt7
        have hs7 : wr.heap.size ≤ w7.heap.size := Nat.le_trans HBR7.out.size HG7.out.size
        have HB7 := Lib.hid (below_grown (below_ext HBW.out HBR7.out) HG7.out (by have h7 := HBR7.out.size; omega) (fun z hz => by have := (HOW3.out z hz).1; have h7 := HB2.out; omega))
        have HNL : Hid (ol.length + 1 = (insF name (.mk k1 b1 n1 s1 l1 f1) f).length) := Lib.hid (by rw [← HI2.out, List.length_append]; rfl)
        have hbo8 : IsBlk w7 w1.heap.size _ 26 := blk_grown (HBO4.out.ext HBR7.out) HG7.out (fun e => by have := (HOW3.out _ e).1; have h7 := HB2.out; omega)
        have hz8 : IsBlk w7 (w.heap.size + 1 + 1) _ 26 := blk_grown (HZ4.out.ext HBR7.out) HG7.out (fun e => by have := (HOW3.out _ e).1; have h7 := HB2.out; omega)
        have HFA : Hid (∀ W, (∀ z, z ≠ w1.heap.size → z ≠ w.heap.size + 1 + 1 → W.heap[z]? = w7.heap[z]?) → Full HasFld 7 B2 (NewD Dq B2 (.slice (some ⟨g1, 0, none⟩) (ol.length + 1) cap)) 38 W (.slice (some ⟨g1, 0, none⟩) (ol.length + 1) cap) (insF name (.mk k1 b1 n1 s1 l1 f1) f)) := Lib.hid (fun W ho => by
          rw [← HI2.out]
          exact HF7.out.kept relF (fun _ h => h) (fun z hz => by have h6 := HF7.out.lt z hz; have h7 := HB2.out; exact ho z (by omega) (by omega)) (fun z hz _ => by
            rcases hz with hz | hz
            · have h6 := HQW.out z hz; exact ho z (by omega) (by omega)
            · have h7 := HB2.out; exact ho z (by have := hz.1; omega) (by have := hz.1; omega)))
        clear HF7 HG7
        skip
        have y5 := hbo8.cell (i := 5) rfl
        have f5 := hbo8.frozen 5
        have hl8 := hbo8.lt
        have HBO8 := Lib.hid hbo8
        have HZ8 := Lib.hid hz8
        clear hbo8 hz8
        go_upto_region 24 with (fail)
        generalize hW9 : World.setCell _ _ _ = W9
        have hbo9 : IsBlk W9 w1.heap.size #[.int .u8 6, .bool b, .int .i64 n, .string (bs s), .slice p1 l.length c1, .slice (some ⟨g1, 0, none⟩) (ol.length + 1) cap] 26 := by rw [← hW9]; simpa using HBO8.out.set 5 (.slice (some ⟨g1, 0, none⟩) (ol.length + 1) cap)
        have hoth9 : ∀ z, z ≠ w1.heap.size → W9.heap[z]? = w7.heap[z]? := fun z hz => by rw [← hW9, Below.heap_setCell _ _ _ _ hz]
        have hb9 : Below w.heap.size w W9 := by rw [← hW9]; exact below_set (HBW3.out.trans (HB7.out.mono HBW3.out.size)) (by omega)
        have hz9 : IsBlk W9 (w.heap.size + 1 + 1) ([.int .u8 0, .bool false, .int .i64 0, .string (bs []), .slice none 0 0, .slice none 0 0] : List Value).toArray 26 := (hoth9 _ (by omega)).trans HZ8.out
        have hend : ∀ W, (∀ z, z ≠ w.heap.size + 1 + 1 → W.heap[z]? = W9.heap[z]?) → HasVal (fun z => w.heap.size ≤ z) W R [.int .u8 6, .bool b, .int .i64 n, .string (bs s), .slice p1 l.length c1, .slice (some ⟨g1, 0, none⟩) (ol.length + 1) cap] := fun W ho =>
          HFIN.out W (some ⟨g1, 0, none⟩) (ol.length + 1) cap (HFA.out W (fun z h1 h2 => (ho z h2).trans (hoth9 z h1))) HNL.out (fun z hz => by
            have h6 := HQW.out z hz
            rw [ho z (by omega), hoth9 z (by omega)]
            exact HB7.out.block z (by have h7 := HQD.out z hz; have h8 := HB2.out; omega))
        have v0 := hbo9.cell (i := 0) rfl
        have v1 := hbo9.cell (i := 1) rfl
        have v2 := hbo9.cell (i := 2) rfl
        have v3 := hbo9.cell (i := 3) rfl
        have v4 := hbo9.cell (i := 4) rfl
        have v5 := hbo9.cell (i := 5) rfl
        have z0 := hz9.cell (i := 0) rfl
        have z1 := hz9.cell (i := 1) rfl
        have z2 := hz9.cell (i := 2) rfl
        have z3 := hz9.cell (i := 3) rfl
        have z4 := hz9.cell (i := 4) rfl
        have z5 := hz9.cell (i := 5) rfl
        have fz0 := hz9.frozen 0
        have fz1 := hz9.frozen 1
        have fz2 := hz9.frozen 2
        have fz3 := hz9.frozen 3
        have fz4 := hz9.frozen 4
        have fz5 := hz9.frozen 5
        have hl9 := hbo9.lt
        have hlz9 := hz9.lt
        have hze := And.intro (blk_setCells [.int .u8 6, .bool b, .int .i64 n, .string (bs s), .slice p1 l.length c1, .slice (some ⟨g1, 0, none⟩) (ol.length + 1) cap] 0 W9 [.int .u8 0, .bool false, .int .i64 0, .string (bs []), .slice none 0 0, .slice none 0 0] hz9) (And.intro (hend _ (fun z hz => other_setCells hz [.int .u8 6, .bool b, .int .i64 n, .string (bs s), .slice p1 l.length c1, .slice (some ⟨g1, 0, none⟩) (ol.length + 1) cap] 0 W9)) (below_setCells (B := w.heap.size) (w0 := w) (show w.heap.size ≤ w.heap.size + 1 + 1 by omega) [.int .u8 6, .bool b, .int .i64 n, .string (bs s), .slice p1 l.length c1, .slice (some ⟨g1, 0, none⟩) (ol.length + 1) cap] 0 W9 hb9))
        have HFN := Lib.hid hze
        clear hbo9 hoth9 hb9 hz9 hend hze hW9 y5 f5
        go_wp2
        exact bodyPost_ret (results_ct (p := 6) (u := 7) (ty := 26) Tryd.results25 rfl HFN.out.1 Tryd.underlying26 rfl (by kernel_rfl) rfl) rfl ⟨[.int .u8 6, .bool b, .int .i64 n, .string (bs s), .slice p1 l.length c1, .slice (some ⟨g1, 0, none⟩) (ol.length + 1) cap], rfl, HFN.out.2.1, HFN.out.2.2⟩
      · have HI2 : Hid (ol = insF name (.mk k1 b1 n1 s1 l1 f1) f) := Lib.hid (by rw [← HINS.out, hdl]; simp [insP])
        have HNL : Hid (ol.length = (insF name (.mk k1 b1 n1 s1 l1 f1) f).length) := Lib.hid (by rw [← HI2.out])
        have hbo8 := HBO4.out
        have hz8 := HZ4.out
        clear hdl u0 u1 u2 u3 u4 u5
        have HFA : Hid (∀ W, (∀ z, z ≠ w1.heap.size → z ≠ w.heap.size + 1 + 1 → W.heap[z]? = wr.heap[z]?) → Full HasFld 7 B2 (NewD Dq B2 (.slice q3 ol.length d3)) 38 W (.slice q3 ol.length d3) (insF name (.mk k1 b1 n1 s1 l1 f1) f)) := Lib.hid (fun W ho => by
          rw [← HI2.out]
          exact HFU.out.kept relF (fun _ h => h) (fun z hz => by have h6 := HFU.out.lt z hz; have h7 := HB2.out; exact ho z (by omega) (by omega)) (fun z hz _ => by
            rcases hz with hz | hz
            · have h6 := HQW.out z hz; exact ho z (by omega) (by omega)
            · have h7 := HB2.out; exact ho z (by have := hz.1; omega) (by have := hz.1; omega)))
        skip
        have y5 := hbo8.cell (i := 5) rfl
        have f5 := hbo8.frozen 5
        have hl8 := hbo8.lt
        have HBO8 := Lib.hid hbo8
        have HZ8 := Lib.hid hz8
        clear hbo8 hz8
        go_upto_region 24 with (fail)
        generalize hW9 : World.setCell _ _ _ = W9
        have hbo9 : IsBlk W9 w1.heap.size #[.int .u8 6, .bool b, .int .i64 n, .string (bs s), .slice p1 l.length c1, .slice q3 ol.length d3] 26 := by rw [← hW9]; simpa using HBO8.out.set 5 (.slice q3 ol.length d3)
        have hoth9 : ∀ z, z ≠ w1.heap.size → W9.heap[z]? = wr.heap[z]? := fun z hz => by rw [← hW9, Below.heap_setCell _ _ _ _ hz]
        have hb9 : Below w.heap.size w W9 := by rw [← hW9]; exact below_set (HBW3.out.trans (HBW.out.mono HBW3.out.size)) (by omega)
        have hz9 : IsBlk W9 (w.heap.size + 1 + 1) ([.int .u8 0, .bool false, .int .i64 0, .string (bs []), .slice none 0 0, .slice none 0 0] : List Value).toArray 26 := (hoth9 _ (by omega)).trans HZ8.out
        have hend : ∀ W, (∀ z, z ≠ w.heap.size + 1 + 1 → W.heap[z]? = W9.heap[z]?) → HasVal (fun z => w.heap.size ≤ z) W R [.int .u8 6, .bool b, .int .i64 n, .string (bs s), .slice p1 l.length c1, .slice q3 ol.length d3] := fun W ho =>
          HFIN.out W q3 ol.length d3 (HFA.out W (fun z h1 h2 => (ho z h2).trans (hoth9 z h1))) HNL.out (fun z hz => by
            have h6 := HQW.out z hz
            rw [ho z (by omega), hoth9 z (by omega)]
            exact HBW.out.block z (by have h7 := HQD.out z hz; have h8 := HB2.out; omega))
        have v0 := hbo9.cell (i := 0) rfl
        have v1 := hbo9.cell (i := 1) rfl
        have v2 := hbo9.cell (i := 2) rfl
        have v3 := hbo9.cell (i := 3) rfl
        have v4 := hbo9.cell (i := 4) rfl
        have v5 := hbo9.cell (i := 5) rfl
        have z0 := hz9.cell (i := 0) rfl
        have z1 := hz9.cell (i := 1) rfl
        have z2 := hz9.cell (i := 2) rfl
        have z3 := hz9.cell (i := 3) rfl
        have z4 := hz9.cell (i := 4) rfl
        have z5 := hz9.cell (i := 5) rfl
        have fz0 := hz9.frozen 0
        have fz1 := hz9.frozen 1
        have fz2 := hz9.frozen 2
        have fz3 := hz9.frozen 3
        have fz4 := hz9.frozen 4
        have fz5 := hz9.frozen 5
        have hl9 := hbo9.lt
        have hlz9 := hz9.lt
        have hze := And.intro (blk_setCells [.int .u8 6, .bool b, .int .i64 n, .string (bs s), .slice p1 l.length c1, .slice q3 ol.length d3] 0 W9 [.int .u8 0, .bool false, .int .i64 0, .string (bs []), .slice none 0 0, .slice none 0 0] hz9) (And.intro (hend _ (fun z hz => other_setCells hz [.int .u8 6, .bool b, .int .i64 n, .string (bs s), .slice p1 l.length c1, .slice q3 ol.length d3] 0 W9)) (below_setCells (B := w.heap.size) (w0 := w) (show w.heap.size ≤ w.heap.size + 1 + 1 by omega) [.int .u8 6, .bool b, .int .i64 n, .string (bs s), .slice p1 l.length c1, .slice q3 ol.length d3] 0 W9 hb9))
        have HFN := Lib.hid hze
        clear hbo9 hoth9 hb9 hz9 hend hze hW9 y5 f5
        go_wp2
        exact bodyPost_ret (results_ct (p := 6) (u := 7) (ty := 26) Tryd.results25 rfl HFN.out.1 Tryd.underlying26 rfl (by kernel_rfl) rfl) rfl ⟨[.int .u8 6, .bool b, .int .i64 n, .string (bs s), .slice p1 l.length c1, .slice q3 ol.length d3], rfl, HFN.out.2.1, HFN.out.2.2⟩
end Go.Proofs.YthcojmpigdojoaaDoor
