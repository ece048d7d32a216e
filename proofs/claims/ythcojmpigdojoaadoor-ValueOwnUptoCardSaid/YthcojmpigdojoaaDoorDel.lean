/- slices.DeleteFunc of the fields that bear a name, out of a row that the call owns. Conditions: at most 2^30 fields. -/
import Derived.Test.YthcojmpigdojoaaDoorInsM
import Derived.Test.YthcojmpigdojoaaDoorIdx
set_option linter.unusedVariables false
set_option linter.unusedSimpArgs false
namespace Go.Proofs.YthcojmpigdojoaaDoor
open Go Go.RowKit Go.BigFrame
set_option maxRecDepth 100000

theorem idxI_spec (P : List UInt8 → Bool) : ∀ (f : List (List UInt8 × DVal)) (i : Nat), (idxI P i f = -1 ∧ ∀ p ∈ f, P p.1 = false) ∨ ∃ k, ∃ h : k < f.length, idxI P i f = ((i + k : Nat) : Int) ∧ P f[k].1 = true ∧ ∀ p ∈ f.take k, P p.1 = false
  | [], i => .inl ⟨rfl, fun p hp => by cases hp⟩
  | p :: f, i => by
    rw [idxI]
    by_cases h : P p.1 = true
    · rw [if_pos h]; exact .inr ⟨0, by simp, rfl, h, fun q hq => by simp at hq⟩
    · rw [if_neg h]
      have hf : P p.1 = false := by simpa using h
      rcases idxI_spec P f (i + 1) with ⟨h1, h2⟩ | ⟨k, hk, h1, h2, h3⟩
      · refine .inl ⟨h1, fun q hq => ?_⟩
        rcases List.mem_cons.1 hq with rfl | hq
        · exact hf
        · exact h2 q hq
      · refine .inr ⟨k + 1, by simpa using hk, by rw [h1]; congr 1; omega, by simpa using h2, fun q hq => ?_⟩
        rw [List.take_succ_cons] at hq
        rcases List.mem_cons.1 hq with rfl | hq
        · exact hf
        · exact h3 q hq
section
variable {P : Program}
theorem mem_zeroCells {z : Array Value} (hs : 0 < z.size) (h1 : ∀ v ∈ z, v.oneCell' = true) (n : Nat) : ∀ v ∈ (Builtin.zeroCells z n).toList, v.oneCell' = true := fun v hv => by
  unfold Builtin.zeroCells at hv
  rw [Array.toList_map, List.mem_map] at hv
  obtain ⟨i, _, rfl⟩ := hv
  have hl := Nat.mod_lt i hs
  rw [getElem!_pos z _ hl]
  exact h1 _ (Array.getElem_mem hl)
theorem wpList_clearN {w : World} {ops : Array Oper} {rest : List Oper} {o : Oper} {a : Act} {Q : Exit → Act → World → Prop} (hgd : o.guard = none) (s : Operand) (t : TypeId)
    (ho : o.op = .call { callee := .builtin .clear, args := #[s], argTypes := #[t] }) (elem : TypeId) (hu : P.underlying t = some (.slice elem)) (z : Value) (sz : Nat) (hz : ∀ w, (zeroValue elem).run P w = .ok z w) (hzs : z.cells.size = sz) (hsz : 0 < sz) (hz1 : ∀ v ∈ z.cells, v.oneCell' = true)
    (g off n c : Nat) (hn : 0 < n) (hs : a.eval s = .slice (some ⟨g, off, none⟩) n c) (cur : List Value) (te : TypeId) (hg : IsBlk w g cur.toArray te) (hfit : off + n * sz ≤ cur.length)
    (h : ∀ w' cs, Hid (cs.length = n * sz) → Hid (IsBlk w' g (splice cur off cs).toArray te) → Hid (w.grownBy w' (some g)) → wpList P ops Q rest (a.put o.dst (.tuple #[])) w') : wpList P ops Q (o :: rest) a w := by
  refine wpList_plain hgd fun K hK => ?_
  have hlen : (Builtin.zeroCells z.cells n).toList.length = n * sz := by rw [Array.length_toList, size_zeroCells, hzs]
  have hst := run_storeCells_at P g off te (Builtin.zeroCells z.cells n).toList 0 cur.toArray w hg (by rw [hlen]; simpa using hfit) (mem_zeroCells (by omega) hz1 n)
  have hfin := h (w.setRow g (cur.take off ++ (Builtin.zeroCells z.cells n).toList ++ cur.drop (off + (Builtin.zeroCells z.cells n).toList.length)).toArray) (Builtin.zeroCells z.cells n).toList hlen
    (show _ = _ by simpa [splice] using setRow_heap w g _ _ te _ hg) (show World.grownBy _ _ _ from ⟨rfl, rfl, rfl, by simp, fun k _ hne => setRow_other w g k _ (fun e => hne (by rw [e]))⟩)
  obtain ⟨m, rfl⟩ : ∃ m, n = m + 1 := ⟨n - 1, by omega⟩
  unfold Oper.wp
  simp only [Nat.add_zero] at hst
  simp [execOp, ho, resolve, invoke, builtin, hs, Builtin.clear_, run_underlying hu, hz, hst, Result.andThen]
  refine hK _ _ ?_
  simpa using hfin
end
theorem grown_setCells {w : World} {g : Nat} {w1 : World} (h : w.grownBy w1 (some g)) (o : Nat) (vs : List Value) : w.grownBy (w1.setCells g o vs) (some g) := by
  have hb := below_setCells (B := 0) (w0 := w) (Nat.zero_le g) vs o w1 ⟨h.os, h.tape, h.output, h.size, fun k hk => absurd hk (Nat.not_lt_zero _)⟩
  exact ⟨hb.os, hb.tape, hb.output, hb.size, fun k hk hne => (other_setCells (fun e => hne (by rw [e])) vs o w1).trans (h.block k hk hne)⟩
theorem grown_below {w w1 w2 : World} {r : Option Nat} (h : w.grownBy w1 r) (hb : Below w1.heap.size w1 w2) : w.grownBy w2 r :=
  World.grownBy.trans h ⟨hb.os, hb.tape, hb.output, hb.size, fun k hk _ => hb.block k hk⟩
/-- The fields that are kept among the first, with their cells. -/
def keptZ (name : List UInt8) (zs : List ((List UInt8 × DVal) × List Value)) (j : Nat) : List ((List UInt8 × DVal) × List Value) := (zs.take j).filter fun z => !isName name z.1.1
theorem keptZ_yes {name : List UInt8} {zs : List ((List UInt8 × DVal) × List Value)} {j : Nat} (hj : j < zs.length) (h : isName name zs[j].1.1 = false) : keptZ name zs (j + 1) = keptZ name zs j ++ [zs[j]] := by
  unfold keptZ
  rw [List.take_succ_eq_append_getElem hj, List.filter_append]
  simp [h]
theorem keptZ_no {name : List UInt8} {zs : List ((List UInt8 × DVal) × List Value)} {j : Nat} (hj : j < zs.length) (h : isName name zs[j].1.1 = true) : keptZ name zs (j + 1) = keptZ name zs j := by
  unfold keptZ
  rw [List.take_succ_eq_append_getElem hj, List.filter_append]
  simp [h]
theorem keptZ_all {name : List UInt8} {zs : List ((List UInt8 × DVal) × List Value)} {j : Nat} (h : ∀ z ∈ zs.take j, isName name z.1.1 = false) : keptZ name zs j = zs.take j := by
  unfold keptZ
  exact List.filter_eq_self.2 (fun z hz => by rw [h z hz]; rfl)
theorem keptZ_fst {name : List UInt8} {vs : List (List UInt8 × DVal)} {css : List (List Value)} (h : css.length = vs.length) : (keptZ name (vs.zip css) vs.length).map (·.1) = vs.filter fun q => !isName name q.1 := by
  unfold keptZ
  rw [List.take_of_length_le (by rw [List.length_zip]; omega)]
  have e : (vs.zip css).map (·.1) = vs := List.map_fst_zip (by omega)
  conv => rhs; rw [← e, List.filter_map]
  rfl
theorem take_cut {css : List (List Value)} {pad cs : List Value} {i : Nat} (hl : ∀ c ∈ css, c.length = 7) (hi : i ≤ css.length) : (splice (css.flatten ++ pad) (i * 7) cs).take (i * 7) = (css.take i).flatten := by
  have h1 := flatten_take hl i hi
  have e : css.flatten = (css.take i).flatten ++ (css.drop i).flatten := by rw [← List.flatten_append, List.take_append_drop]
  unfold splice
  rw [e, List.append_assoc, List.take_append_of_le_length (by rw [List.length_take, List.length_append, h1]; omega), List.take_take, Nat.min_self, List.take_append_of_le_length (by omega), List.take_of_length_le (by omega)]
set_option maxHeartbeats 8000000 in
theorem delete_any (name : List UInt8) (vs : List (List UInt8 × DVal)) (B : Nat) (v : Value) (g : Nat) (w : World) (D : Nat → Prop) (HA : Full HasFld 7 B D 38 w v vs) (hDv : ∀ b, D b → v.ownBlock ≠ some b) (hgl : g < w.heap.size) (hgv : v.ownBlock ≠ some g) (hg : w.cell? ⟨g, 0, none⟩ = some (.string (bs name))) (hB : B ≤ w.heap.size) (hn : vs.length ≤ 1073741824) :
    Calls Tryd.prog 50 #[v, .func (.func 53) #[] #[.pointer (some ⟨g, 0, none⟩)]] w fun e' w' => ∃ p c, e' = .returned (.slice p (vs.filter fun q => !isName name q.1).length c) ∧ Full HasFld 7 B D 38 w' (.slice p (vs.filter fun q => !isName name q.1).length c) (vs.filter fun q => !isName name q.1) ∧ w.grownBy w' v.ownBlock ∧ (Value.slice p (vs.filter fun q => !isName name q.1).length c).ownBlock = v.ownBlock := by
  obtain ⟨p, c, rfl, hnc, hcm, hcl⟩ := HA.cells (S := fun _ => True) relF (fun _ _ => trivial) (fun _ _ => trivial)
  have hF : HasF (fun _ => True) w p vs := hasF_row.2 (fun i hi => by
    obtain ⟨g, cs, h1, h2, h3⟩ := hcl i hi
    exact ⟨g, 0, cs, h1, h2, h3⟩)
  have hidx := idx_named name vs _ p c g w hF hn hgl hg
  rcases idxI_spec (isName name) vs 0 with ⟨e1, hall⟩ | ⟨k0, hk0, e1, hP, hall⟩
  · rw [e1] at hidx
    have hfil : (vs.filter fun q => !isName name q.1) = vs := List.filter_eq_self.2 (fun q hq => by rw [hall q hq]; rfl)
    rw [hfil]
    have HA' := Lib.hid HA
    have HI := Lib.hid hidx
    clear HA hcl hF hidx hall hfil hDv hg e1
    go_enter Tryd.func50, Tryd.ntmps50
    go_wp2_with fail
    go_at_call 30
    refine HI.out.mono ?_
    rintro e' w1 ⟨rfl, hb⟩
    have HB := Lib.hid hb
    clear hb
    go_wp2
    go_ret
    exact ⟨p, c, rfl, HA'.out.ext relF HB.out, ⟨HB.out.os, HB.out.tape, HB.out.output, HB.out.size, fun k hk _ => HB.out.block k hk⟩, rfl⟩
  · rw [e1, Nat.zero_add] at hidx
    obtain ⟨css, h1, h2, h3⟩ := HA
    have hl7 : ∀ c ∈ css, c.length = 7 := fun c hc => by
      obtain ⟨i, hi, rfl⟩ := List.getElem_of_mem hc
      exact relF.len (h3 i (by omega) hi)
    rcases h1.2 with ⟨hnil, h0⟩ | ⟨b, c', cur, hv, hBb, hb, hnc', hcm', hcs, hx⟩
    · omega
    obtain ⟨ev1, _, ev3⟩ := Value.slice.inj hv
    subst ev1
    subst ev3
    obtain ⟨n, hnl⟩ : ∃ n, n = vs.length := ⟨_, rfl⟩
    obtain ⟨zs, hzs⟩ : ∃ zs, zs = vs.zip css := ⟨_, rfl⟩
    have hzl : zs.length = n := by rw [hzs, hnl, List.length_zip, h2, Nat.min_self]
    have hz1 : zs.map (·.1) = vs := by rw [hzs]; exact List.map_fst_zip (by omega)
    have hz2 : zs.map (·.2) = css := by rw [hzs]; exact List.map_snd_zip (by omega)
    have hfst : (keptZ name zs n).map (·.1) = vs.filter fun q => !isName name q.1 := by rw [hzs, hnl]; exact keptZ_fst h2
    have hzR : ∀ z ∈ zs, HasFld D w z.1 z.2 := fun z hz => by
      rw [hzs] at hz
      obtain ⟨j, hj, rfl⟩ := List.getElem_of_mem hz
      rw [List.getElem_zip]
      rw [List.length_zip] at hj
      exact h3 j (by omega) (by omega)
    have hk0z : keptZ name zs (k0 + 1) = zs.take k0 := by
      have hj : k0 < zs.length := by omega
      have e2 : ∀ j (hj : j < zs.length) (hv : j < vs.length), zs[j].1 = vs[j] := fun j hj hv => by
        have : (zs.map (·.1))[j]'(by simpa using hj) = vs[j] := by simp only [hz1]
        simpa using this
      rw [keptZ_no hj (by rw [e2 k0 hj hk0]; exact hP), keptZ_all (fun z hz => by
        obtain ⟨j, hj2, rfl⟩ := List.getElem_of_mem hz
        have hjk : j < k0 := by have := hj2; rw [List.length_take] at this; omega
        rw [List.getElem_take, e2 j (by omega) (by omega)]
        exact hall _ (by
          have : vs[j] = (vs.take k0)[j]'(by rw [List.length_take]; omega) := by rw [List.getElem_take]
          rw [this]; exact List.getElem_mem _))]
    have hfl : css.flatten.length = n * 7 := by
      have := flatten_take hl7 css.length (Nat.le_refl _)
      rw [List.take_length] at this
      rw [this, h2, hnl]
    rw [← hnl] at hx hnc hidx hn hk0 ⊢
    obtain ⟨pad, hpad⟩ : ∃ pad, pad = cur.toList.drop (n * 7) := ⟨_, rfl⟩
    have hcur : cur.toList = css.flatten ++ pad := by rw [← hx, hpad, List.take_append_drop]
    have hpl : pad.length = (c - n) * 7 := by
      rw [hpad, List.length_drop, show cur.toList.length = c * 7 by simpa using hcs]
      omega
    have hbb : IsBlk w b (css.flatten ++ pad).toArray 38 := by rw [← hcur]; exact hb
    have hbl := hbb.lt
    have hgb : g ≠ b := fun e => hgv (by rw [e]; rfl)
    have hcl2 : css.length = n := by omega
    have HFST := Lib.hid hfst
    have HZR := Lib.hid hzR
    have HZ2 := Lib.hid hz2
    have HZL := Lib.hid hzl
    have HK0 := Lib.hid hk0z
    have HN := Lib.hid hnl
    have HBB := Lib.hid hbb
    have HPL := Lib.hid hpl
    have HL7 := Lib.hid hl7
    have HI := Lib.hid hidx
    have HGC := Lib.hid hg
    have HDV := Lib.hid hDv
    have HC2 := Lib.hid hcl2
    have hzv : ∀ w, (zeroValue 38).run Tryd.prog w = .ok (.agg #[.string ⟨#[]⟩, .int .u8 0, .bool false, .int .i64 0, .string ⟨#[]⟩, .slice none 0 0, .slice none 0 0]) w := fun w => by
      have h : (Tryd.prog.info? 38).map (·.zero) = some (some (.agg #[.string ⟨#[]⟩, .int .u8 0, .bool false, .int .i64 0, .string ⟨#[]⟩, .slice none 0 0, .slice none 0 0])) := by kernel_rfl
      obtain ⟨i0, h0, h1⟩ := Option.map_eq_some_iff.1 h
      simp [zeroValue, typeInfo, h0, h1]
    have HZV := Lib.hid hzv
    clear hzv h1 h2 h3 hcl hF hidx hall hP hg hDv hfst hzR hz1 hz2 hzl hk0z hnl hbb hpl hl7 hpad hcur hfl hx hb hcs hzs e1 hgv hcl2 hv
    go_enter Tryd.func50, Tryd.ntmps50
    go_wp2_with fail
    go_at_call 30
    refine HI.out.mono ?_
    rintro e' w1 ⟨rfl, hb1⟩
    have HG1 : Hid (w.grownBy w1 (some b)) := Lib.hid ⟨hb1.os, hb1.tape, hb1.output, hb1.size, fun k hk _ => hb1.block k hk⟩
    have HB1 := Lib.hid (HBB.out.ext hb1)
    clear hb1
    have hk0m : ¬ ((k0 : Int) = -1) := by omega
    go_wp2
    go_loopw [5, 6] (fun a1 a2 wr => ∃ (i j : Nat) (css' : List (List Value)), a1 = .int .i64 (i : Int) ∧ a2 = .int .i64 (j : Int) ∧ i < j ∧ j ≤ n ∧ css'.length = n ∧ (∀ c ∈ css', c.length = 7) ∧ IsBlk wr b (css'.flatten ++ pad).toArray 38 ∧ css'.take i = (keptZ name zs j).map (·.2) ∧ i = (keptZ name zs j).length ∧ css'.drop j = css.drop j ∧ w.grownBy wr (some b)) (fun _ a2 _ => n - (intOf a2).toNat)
    case atStart => exact ⟨k0, k0 + 1, css, rfl, by go_num, by omega, by omega, HC2.out, HL7.out, HB1.out, by rw [HK0.out, ← HZ2.out, List.map_take], by rw [HK0.out, List.length_take, HZL.out]; omega, rfl, HG1.out⟩
    case round =>
    clear HB1 HG1 HBB HK0 HL7
    obtain ⟨i, j, css', rfl, rfl, hij, hjn, hl', hl7', hblk, htk, hik, hdr, hgr⟩ := hrel
    have HBK := Lib.hid hblk
    have HTK := Lib.hid htk
    have HIK := Lib.hid hik
    have HDR := Lib.hid hdr
    have HGR := Lib.hid hgr
    have HL' := Lib.hid hl'
    have HL7' := Lib.hid hl7'
    have hszr := hgr.size
    have hbr := hblk.lt
    clear htk hik hdr hgr
    by_cases hlt : j < n
    · have hjz : j < zs.length := by rw [HZL.out]; exact hlt
      have hjc : j < css.length := by rw [HC2.out]; exact hlt
      have hjc' : j < css'.length := by rw [hl']; exact hlt
      have hic' : i < css'.length := by rw [hl']; omega
      have hrow := HZR.out _ (List.getElem_mem hjz)
      have hzj : zs[j].2 = css[j] := by
        have : (zs.map (·.2))[j]'(by simpa using hjz) = css[j] := by simp only [HZ2.out]
        simpa using this
      have hcj : css'[j] = css[j] := by
        have h := HDR.out
        have h1 : (css'.drop j)[0]? = (css.drop j)[0]? := by rw [h]
        rw [List.getElem?_drop, List.getElem?_drop, Nat.add_zero, List.getElem?_eq_getElem hjc', List.getElem?_eq_getElem hjc] at h1
        exact Option.some.inj h1
      have hyes := fun h => keptZ_yes (name := name) hjz h
      have hno := fun h => keptZ_no (name := name) hjz h
      have hcells : ∀ (q : Nat) (hq : q < css'.length) (r : Nat), r < 7 → wr.cell? ⟨b, q * 7 + r, none⟩ = css'[q][r]? := fun q hq r hr => by
        have hg2 := flatten_get hl7' hq hr
        have hv : css'[q][r]? = some (css'[q][r]'(by rw [hl7' _ (List.getElem_mem hq)]; exact hr)) := List.getElem?_eq_getElem _
        rw [hv] at hg2 ⊢
        refine hblk.cell ?_
        rw [List.getElem?_toArray, List.getElem?_append_left (List.getElem?_eq_some_iff.1 hg2).1]
        exact hg2
      have hold := fun r hr => hcells i hic' r hr
      have holdl := hl7' _ (List.getElem_mem hic')
      have hnew := fun r hr => hcells j hjc' r hr
      rw [hcj, ← hzj] at hnew
      generalize hu : zs[j] = u at hrow hnew hyes hno
      obtain ⟨⟨x1, v1⟩, cu⟩ := u
      obtain ⟨cs1, hcu, hx1, hv1⟩ := hrow
      simp only [] at hcu hx1 hv1 hyes hno hnew
      subst hcu
      have hvr : HasVal D wr v1 cs1 := relV.kept hv1 (fun _ h => h) (fun z hz hlt => HGR.out.block z hlt (fun e => HDV.out z hz e.symm))
      have HVR := Lib.hid hvr
      obtain ⟨k1, b1, n1, s1, l1, f1⟩ := v1
      obtain ⟨pl1, cl1, pf1, cf1, rfl, hrr1⟩ := hasVal_mk.1 hv1
      have d0 := hnew 0 (by omega)
      have d1 := hnew 1 (by omega)
      have d2 := hnew 2 (by omega)
      have d3 := hnew 3 (by omega)
      have d4 := hnew 4 (by omega)
      have d5 := hnew 5 (by omega)
      have d6 := hnew 6 (by omega)
      rw [Nat.add_zero] at d0
      generalize hoc : css'[i] = co at hold holdl
      obtain ⟨o0, o1, o2, o3, o4, o5, o6, rfl⟩ : ∃ o0 o1 o2 o3 o4 o5 o6, co = [o0, o1, o2, o3, o4, o5, o6] := by
        match co, holdl with
        | [o0, o1, o2, o3, o4, o5, o6], _ => exact ⟨_, _, _, _, _, _, _, rfl⟩
      have p0 := hold 0 (by omega)
      have p1 := hold 1 (by omega)
      have p2 := hold 2 (by omega)
      have p3 := hold 3 (by omega)
      have p4 := hold 4 (by omega)
      have p5 := hold 5 (by omega)
      have p6 := hold 6 (by omega)
      rw [Nat.add_zero] at p0
      obtain ⟨bx, hbx⟩ : ∃ bx, bx = wr.alloc (.cells #[.string (bs x1), .int .u8 (k1 : Int), .bool b1, .int .i64 n1, .string (bs s1), .slice pl1 l1.length cl1, .slice pf1 f1.length cf1] 38) := ⟨_, rfl⟩
      have hbb : Below wr.heap.size wr bx := by rw [hbx]; exact (Below.refl _ _).alloc (Nat.le_refl _) _
      have hbk : IsBlk bx wr.heap.size #[.string (bs x1), .int .u8 (k1 : Int), .bool b1, .int .i64 n1, .string (bs s1), .slice pl1 l1.length cl1, .slice pf1 f1.length cf1] 38 := by rw [hbx]; exact IsBlk.new _ _ _
      have hcg : bx.cell? ⟨g, 0, none⟩ = some (.string (bs name)) := by
        have h1 := HGC.out
        unfold World.cell? at h1 ⊢
        simp only [] at h1 ⊢
        rw [hbb.block g (by omega), HGR.out.block g hgl (fun e => hgb (by have h := Option.some.inj e; omega))]
        exact h1
      have HCLO := Lib.hid (cl_named name x1 (.mk k1 b1 n1 s1 l1 f1) _ _ g bx (HVR.out.ext hbb) (by have := hbb.size; omega) hcg)
      rw [hbx] at HCLO
      obtain ⟨E, hE⟩ : ∃ E, E = isName name x1 := ⟨_, rfl⟩
      rw [← hE] at HCLO hyes hno
      have HYES := Lib.hid hyes
      have HNO := Lib.hid hno
      have HBX := Lib.hid hbx
      have HBB := Lib.hid hbb
      have HBQ := Lib.hid hbk
      have HOC := Lib.hid hoc
      have HU := Lib.hid hu
      have HCJ := Lib.hid hcj
      have HZJ := Lib.hid hzj
      clear hyes hno hbx hbb hbk hoc hu hcj hzj hcg hvr hv1 hrr1 hold hnew holdl hcells hE hx1 hl' hl7' hblk
      go_wp2_with fail
      go_at_call 53
      refine HCLO.out.mono ?_
      rintro e' w2 ⟨rfl, hb2⟩
      rw [← HBX.out] at hb2
      have hb3 := below_ext HBB.out hb2
      have HB3 := Lib.hid hb3
      have hq2 := HBQ.out.ext hb2
      have y0 := hq2.cell (i := 0) rfl
      have y1 := hq2.cell (i := 1) rfl
      have y2 := hq2.cell (i := 2) rfl
      have y3 := hq2.cell (i := 3) rfl
      have y4 := hq2.cell (i := 4) rfl
      have y5 := hq2.cell (i := 5) rfl
      have y6 := hq2.cell (i := 6) rfl
      have hl2 := hq2.lt
      have hz2 := hb3.size
      clear hb2 hb3 hq2 d0 d1 d2 d3 d4 d5 d6
      cases E
      · have hgb2 := HB3.out.block b hbr
        have q0 := (HB3.out.cell (p := ⟨b, i * 7, none⟩) hbr).trans p0
        have q1 := (HB3.out.cell (p := ⟨b, i * 7 + 1, none⟩) hbr).trans p1
        have q2 := (HB3.out.cell (p := ⟨b, i * 7 + 2, none⟩) hbr).trans p2
        have q3 := (HB3.out.cell (p := ⟨b, i * 7 + 3, none⟩) hbr).trans p3
        have q4 := (HB3.out.cell (p := ⟨b, i * 7 + 4, none⟩) hbr).trans p4
        have q5 := (HB3.out.cell (p := ⟨b, i * 7 + 5, none⟩) hbr).trans p5
        have q6 := (HB3.out.cell (p := ⟨b, i * 7 + 6, none⟩) hbr).trans p6
        have hbk2 := HBK.out.ext HB3.out
        have r0 := hbk2.frozen 0
        have z0 := hbk2.frozen (i * 7)
        have z1 := hbk2.frozen (i * 7 + 1)
        have z2 := hbk2.frozen (i * 7 + 2)
        have z3 := hbk2.frozen (i * 7 + 3)
        have z4 := hbk2.frozen (i * 7 + 4)
        have z5 := hbk2.frozen (i * 7 + 5)
        have z6 := hbk2.frozen (i * 7 + 6)
        have hfin := blk_setCells [.string (bs x1), .int .u8 (k1 : Int), .bool b1, .int .i64 n1, .string (bs s1), .slice pl1 l1.length cl1, .slice pf1 f1.length cf1] (i * 7 + ([] : List Value).length) w2 _ hbk2
        rw [putAt_flat (pre := []) HL7'.out hic' HOC.out rfl] at hfin
        have hgr2 := grown_setCells (grown_below HGR.out HB3.out) (i * 7 + ([] : List Value).length) [.string (bs x1), .int .u8 (k1 : Int), .bool b1, .int .i64 n1, .string (bs s1), .slice pl1 l1.length cl1, .slice pf1 f1.length cf1]
        have HF := Lib.hid (And.intro hfin hgr2)
        clear p0 p1 p2 p3 p4 p5 p6 hfin hgr2 hbk2 hgb2 r0
        go_wp2
        clear q0 q1 q2 q3 q4 q5 q6 z0 z1 z2 z3 z4 z5 z6 y0 y1 y2 y3 y4 y5 y6
        go_wp2
        go_roundw
        case rel =>
          have hset : (css'.set i ([] ++ [.string (bs x1), .int .u8 (k1 : Int), .bool b1, .int .i64 n1, .string (bs s1), .slice pl1 l1.length cl1, .slice pf1 f1.length cf1])).take (i + 1) = (keptZ name zs (j + 1)).map (·.2) := by
            rw [HYES.out (by simp), List.map_append, ← HTK.out, List.take_succ_eq_append_getElem (by rw [List.length_set]; exact hic'), List.getElem_set_self, List.take_set, List.set_eq_of_length_le (by rw [List.length_take]; omega)]
            rfl
          have hd2 : (css'.set i ([] ++ [.string (bs x1), .int .u8 (k1 : Int), .bool b1, .int .i64 n1, .string (bs s1), .slice pl1 l1.length cl1, .slice pf1 f1.length cf1])).drop (j + 1) = css.drop (j + 1) := by
            rw [List.drop_set_of_lt (by omega), ← List.drop_drop, ← List.drop_drop, HDR.out]
          repeat apply Exists.intro
          refine ⟨⟨i + 1, j + 1, _, by go_num, by go_num, by omega, by omega, by rw [List.length_set]; exact HL'.out, fun c hc => ?_, HF.out.1, hset, by rw [HYES.out (by simp), List.length_append, ← HIK.out]; rfl, hd2, HF.out.2⟩, ?_⟩
          · rcases List.mem_or_eq_of_mem_set hc with h | h
            · exact HL7'.out c h
            · rw [h]; rfl
          · rfl
        case measure => simp [intOf]; omega
      · clear p0 p1 p2 p3 p4 p5 p6 y0 y1 y2 y3 y4 y5 y6
        have hbk2 := Lib.hid (HBK.out.ext HB3.out)
        go_wp2
        go_roundw
        case rel =>
          repeat apply Exists.intro
          refine ⟨⟨i, j + 1, css', rfl, by go_num, by omega, by omega, HL'.out, HL7'.out, hbk2.out, by rw [HNO.out (by simp)]; exact HTK.out, by rw [HNO.out (by simp)]; exact HIK.out, by rw [← List.drop_drop, ← List.drop_drop, HDR.out], grown_below HGR.out HB3.out⟩, ?_⟩
          rfl
        case measure => simp [intOf]; omega
    · obtain rfl : j = n := by omega
      have hin : i < j := hij
      have hinI : (i : Int) ≤ (j : Int) := by omega
      have hncI : (j : Int) ≤ (c : Int) := by omega
      have hci : ¬ (c = i) := by omega
      have HCF : Hid (css'.flatten.length = j * 7) := Lib.hid (by
        have h := flatten_take HL7'.out css'.length (Nat.le_refl _)
        rw [List.take_length] at h
        rw [h, HL'.out])
      clear hl' hl7' hblk
      go_wp2_with (refine wpList_clearN rfl _ 24 rfl 38 Tryd.underlying24 _ 7 HZV.out rfl (by decide) (by simp [Value.cells, Value.oneCell']) b (i * 7) (j - i) _ (by omega) rfl (css'.flatten ++ pad) 38 HBK.out (by rw [List.length_append, HCF.out, HPL.out]; omega) ?_)
      intro w2 cs0 HCS HR2 HG2
      have hgr2 : w.grownBy w2 (some b) := World.grownBy.trans HGR.out HG2.out
      have hlk : (keptZ name zs j).length = (vs.filter fun q => !isName name q.1).length := by rw [← HFST.out, List.length_map]
      have hfull : Full HasFld 7 B D 38 w2 (.slice (some ⟨b, 0, none⟩) (vs.filter fun q => !isName name q.1).length c) (vs.filter fun q => !isName name q.1) := by
        have hkl : ∀ c ∈ (keptZ name zs j).map (·.2), c.length = 7 := fun c hc => by
          rw [← HTK.out] at hc
          exact HL7'.out c (List.mem_of_mem_take hc)
        have hfl2 : (((keptZ name zs j).map (·.2)).flatten).length = (vs.filter fun q => !isName name q.1).length * 7 := by
          have h := flatten_take hkl _ (Nat.le_refl _)
          rw [List.take_length, List.length_map, hlk] at h
          exact h
        refine ⟨(keptZ name zs j).map (·.2), ⟨hfl2, .inr ⟨b, c, _, rfl, hBb, HR2.out, by rw [← hlk, ← HIK.out]; omega, hcm, ?_, ?_⟩⟩, by rw [List.length_map, hlk], fun q hq hq' => ?_⟩
        · rw [List.size_toArray, length_splice _ _ _ (by rw [List.length_append, HCF.out, HPL.out, HCS.out]; omega), List.length_append, HCF.out, HPL.out]
          omega
        · rw [← hlk, ← HIK.out, ← HTK.out]
          exact take_cut HL7'.out (by have := HL'.out; omega)
        · have hz : q < (keptZ name zs j).length := by rw [hlk]; exact hq
          have hm := HZR.out _ (List.mem_of_mem_take (List.mem_filter.1 (List.getElem_mem hz)).1)
          have e1 : (vs.filter fun q => !isName name q.1)[q] = (keptZ name zs j)[q].1 := by
            have : ((keptZ name zs j).map (·.1))[q]'(by rw [List.length_map]; exact hz) = (vs.filter fun q => !isName name q.1)[q] := by simp only [HFST.out]
            rw [← this, List.getElem_map]
          rw [e1, List.getElem_map]
          exact relF.kept hm (fun _ h => h) (fun z hz hlt => hgr2.block z hlt (fun e => HDV.out z hz e.symm))
      have hi : i = (vs.filter fun q => !isName name q.1).length := by rw [← hlk]; exact HIK.out
      have HF := Lib.hid (And.intro hfull hgr2)
      have HI2 := Lib.hid hi
      clear hfull hgr2 hlk hi
      go_wp2
      go_ret
      refine ⟨some ⟨b, 0, none⟩, c, by rw [← HI2.out]; rfl, HF.out.1, HF.out.2, rfl⟩
end Go.Proofs.YthcojmpigdojoaaDoor
