/- codicilref02.Drop. Conditions: the struct lies in memory, its fields are no more than 2^20. -/
import Derived.Test.YthcojmpigdojoaaDoorRefCopy
set_option linter.unusedVariables false
set_option linter.unusedSimpArgs false
namespace Go.Proofs.YthcojmpigdojoaaDoor
open Go Go.RowKit Go.BigFrame
set_option maxRecDepth 100000

theorem dropF_len (name : List UInt8) (f : List (List UInt8 × DVal)) : (dropF name f).length ≤ f.length := List.length_filter_le _ _
theorem dropF_yes {name : List UInt8} {f : List (List UInt8 × DVal)} {j : Nat} (hj : j < f.length) (h : isName name f[j].1 = false) : dropF name (f.take (j + 1)) = dropF name (f.take j) ++ [f[j]] := by
  unfold dropF
  rw [List.take_succ_eq_append_getElem hj, List.filter_append]
  simp [h]
theorem dropF_no {name : List UInt8} {f : List (List UInt8 × DVal)} {j : Nat} (hj : j < f.length) (h : isName name f[j].1 = true) : dropF name (f.take (j + 1)) = dropF name (f.take j) := by
  unfold dropF
  rw [List.take_succ_eq_append_getElem hj, List.filter_append]
  simp [h]
/-- A row of fields that is made anew: its parts lie in the old memory or in new memory of the call's own. -/
def NewD (Dp : Nat → Prop) (B2 : Nat) (v : Value) : Nat → Prop := fun z => Dp z ∨ (B2 ≤ z ∧ v.ownBlock ≠ some z)
theorem full_nil {R : (Nat → Prop) → World → (List UInt8 × DVal) → List Value → Prop} (B : Nat) (D : Nat → Prop) (e : TypeId) (w : World) : Full R 7 B D e w (.slice none 0 0) [] := ⟨[], ⟨by simp, Or.inl ⟨rfl, rfl⟩⟩, rfl, fun i h => by simp at h⟩
theorem full_base {B B' : Nat} {D : Nat → Prop} {e : TypeId} {w : World} {v : Value} {vs : List (List UInt8 × DVal)} (h : Full HasFld 7 B D e w v vs) (hB : B' ≤ B) : Full HasFld 7 B' D e w v vs := by
  obtain ⟨css, ⟨h1, h2⟩, h3, h4⟩ := h
  refine ⟨css, ⟨h1, ?_⟩, h3, h4⟩
  rcases h2 with h2 | ⟨gg, cap, cur, a1, a2, a3⟩
  · exact .inl h2
  · exact .inr ⟨gg, cap, cur, a1, by omega, a3⟩
/-- A field of a row, cell for cell. -/
theorem Full.at {B : Nat} {D : Nat → Prop} {e : TypeId} {w : World} {v : Value} {f : List (List UInt8 × DVal)} (h : Full HasFld 7 B D e w v f) {j : Nat} (hj : j < f.length) :
    ∃ g c cs, v = .slice (some ⟨g, 0, none⟩) f.length c ∧ B ≤ g ∧ g < w.heap.size ∧ f[j].1.length ≤ 1073741824 ∧ HasVal D w f[j].2 cs ∧ CellsAt (fun _ => True) w g (0 + j * 7) (.string (bs f[j].1) :: cs) := by
  obtain ⟨g, cap, co, hv, h1, h2, _, _, ⟨cs, rfl, h3, h4⟩, h5, h6, _⟩ := (half_of_full h j).next hj
  refine ⟨g, cap, cs, hv, h1, h2, h3, h4, trivial, h2, fun r hr => ?_⟩
  rw [Nat.zero_add]
  exact h6 r (by rw [← h5]; exact hr)
set_option maxHeartbeats 8000000 in
theorem rdrop_any (k : Nat) (b : Bool) (n : Int) (s : List UInt8) (l : List DVal) (f : List (List UInt8 × DVal)) (name : List UInt8) (S : Nat → Prop) (cs : List Value) (w : World) (hv : HasVal S w (.mk k b n s l f) cs) (hfl : f.length ≤ 1048577) :
    Calls Tryd.prog 27 #[.agg cs.toArray, .string (bs name)] w fun e' w' => ∃ cs', e' = .returned (.tuple #[.agg cs'.toArray, .int .i64 (if k = 6 then 0 else 5)]) ∧ HasVal (fun z => w.heap.size ≤ z) w' (dropV name (.mk k b n s l f)) cs' ∧ Below w.heap.size w w' := by
  have HV := Lib.hid hv
  have hv' := hv
  obtain ⟨R, hR⟩ : ∃ R, R = dropV name (.mk k b n s l f) := ⟨_, rfl⟩
  rw [← hR]
  have HR := Lib.hid hR
  obtain ⟨pl, cl, pf, cf, rfl, hbd, _⟩ := hasVal_mk.1 hv'
  have HBD := Lib.hid hbd
  clear hv hv' hbd hR
  by_cases hk : k = 6
  case neg =>
    have hkb : ((k : Int) != 6) = true := by simp; omega
    rw [if_neg hk]
    have HZ0 : Hid (R = .zero) := Lib.hid (by rw [HR.out, dropV, if_neg hk])
    clear hk
    show Calls Tryd.prog 27 #[.agg #[.int .u8 (k : Int), .bool b, .int .i64 n, .string (bs s), .slice pl l.length cl, .slice pf f.length cf], .string (bs name)] w _
    have hz4 : IsBlk ((w.alloc (.cells #[.int .u8 (k : Int), .bool b, .int .i64 n, .string (bs s), .slice pl l.length cl, .slice pf f.length cf] 26)).alloc (.cells #[.int .u8 0, .bool false, .int .i64 0, .string (bs []), .slice none 0 0, .slice none 0 0] 26)) (w.heap.size + 1) #[.int .u8 0, .bool false, .int .i64 0, .string (bs []), .slice none 0 0, .slice none 0 0] 26 := IsBlk.new_at (by simp)
    have hb4 : Below w.heap.size w ((w.alloc (.cells #[.int .u8 (k : Int), .bool b, .int .i64 n, .string (bs s), .slice pl l.length cl, .slice pf f.length cf] 26)).alloc (.cells #[.int .u8 0, .bool false, .int .i64 0, .string (bs []), .slice none 0 0, .slice none 0 0] 26)) := ((Below.refl _ _).alloc (Nat.le_refl _) _).alloc (by simp) _
    have HF := Lib.hid (And.intro hz4 hb4)
    clear hz4 hb4
    go_enter Tryd.func27, Tryd.ntmps27
    go_wp2
    exact bodyPost_ret (results_ct (p := 4) (u := 5) (ty := 26) Tryd.results27 rfl HF.out.1 Tryd.underlying26 rfl (by kernel_rfl) rfl) rfl ⟨[.int .u8 0, .bool false, .int .i64 0, .string (bs []), .slice none 0 0, .slice none 0 0], rfl, by rw [HZ0.out]; exact zero_has' _ _, HF.out.2⟩
  subst hk
  rw [if_pos rfl]
  show Calls Tryd.prog 27 #[.agg #[.int .u8 6, .bool b, .int .i64 n, .string (bs s), .slice pl l.length cl, .slice pf f.length cf], .string (bs name)] w _
  have HRF : Hid (R = .mk 6 b n s l (dropF name f)) := Lib.hid (by rw [HR.out, dropV, if_pos rfl])
  go_enter Tryd.func27, Tryd.ntmps27
  go_upto_region 1 with (fail)
  generalize hW0 : World.alloc (World.alloc w _) _ = W0
  have hd1 : IsBlk W0 w.heap.size #[.int .u8 6, .bool b, .int .i64 n, .string (bs s), .slice pl l.length cl, .slice pf f.length cf] 26 := by rw [← hW0]; exact (IsBlk.new _ _ _).alloc _
  have hd4 : IsBlk W0 (w.heap.size + 1) #[.int .u8 0, .bool false, .int .i64 0, .string (bs []), .slice none 0 0, .slice none 0 0] 26 := by rw [← hW0]; exact IsBlk.new_at (by simp)
  have hb0 : Below w.heap.size w W0 := by rw [← hW0]; exact ((Below.refl _ _).alloc (Nat.le_refl _) _).alloc (by simp) _
  have hlt4 : w.heap.size + 1 < W0.heap.size := hd4.lt
  clear hW0
  have x0 := hd1.cell (i := 0) rfl
  have x1 := hd1.cell (i := 1) rfl
  have x2 := hd1.cell (i := 2) rfl
  have x3 := hd1.cell (i := 3) rfl
  have x4 := hd1.cell (i := 4) rfl
  have x5 := hd1.cell (i := 5) rfl
  have HD4 := Lib.hid hd4
  have HB0 := Lib.hid hb0
  have hlt1 := hd1.lt
  clear hd1 hd4 hb0
  go_wp2_with fail
  go_at_call 15
  refine (rcopy_any (.mk 6 b n s l f) _ _ W0 (HV.out.ext HB0.out)).mono ?_
  rintro e' w1 ⟨cs', rfl, _, hrows, hb1⟩
  obtain ⟨p1, c1, p2, c2, rfl, hlc, hcm, hnc2, hm2, hst⟩ := st_own hrows
  have HST := Lib.hid hst
  have hz1 := hb1.size
  have HB1 := Lib.hid hb1
  clear hrows hst hb1 x0 x1 x2 x3 x4 x5
  go_upto_region 5 with (fail)
  generalize hW2 : World.alloc w1 _ = W2
  have hbo : IsBlk W2 w1.heap.size #[.int .u8 6, .bool b, .int .i64 n, .string (bs s), .slice p1 l.length c1, .slice p2 f.length c2] 26 := by rw [← hW2]; exact IsBlk.new _ _ _
  have hb12 : Below w1.heap.size w1 W2 := by rw [← hW2]; exact (Below.refl _ _).alloc (Nat.le_refl _) _
  have hlo := hbo.lt
  have y5 := hbo.cell (i := 5) rfl
  have HBO := Lib.hid hbo
  have HB12 := Lib.hid hb12
  have HZ2 := Lib.hid (HD4.out.ext (HB1.out.trans (hb12.mono hz1)))
  have HBW2 := Lib.hid (HB0.out.trans ((HB1.out.trans (hb12.mono hz1)).mono HB0.out.size))
  clear hW2 hbo hb12
  go_wp2
  clear y5
  go_loopw [7, 19] (fun a i wr => ∃ (j : Nat), i = .int .i64 (j : Int) ∧ j ≤ f.length ∧ Full HasFld 7 W2.heap.size (fun z => (W0.heap.size ≤ z ∧ (Value.slice p2 f.length c2).ownBlock ≠ some z) ∧ z < w1.heap.size) 38 wr a (dropF name (f.take j)) ∧ Below W2.heap.size W2 wr) (fun _ i _ => f.length - (intOf i).toNat)
  case atStart => exact ⟨0, rfl, Nat.zero_le _, full_nil _ _ _ _, Below.refl _ _⟩
  case round =>
  obtain ⟨j, rfl, hj, hfu, hbw⟩ := hrel
  obtain ⟨q2, d2, rfl, hnd2, hmd2⟩ := hfu.slice
  have HFU := Lib.hid hfu
  have HBW := Lib.hid hbw
  have hszr := hbw.size
  have hown : ∀ z, (Value.slice q2 (dropF name (f.take j)).length d2).ownBlock = some z → W2.heap.size ≤ z ∧ z < wr.heap.size := hfu.lt
  have HOW := Lib.hid hown
  have hst := HST.out.ext (below_ext HB12.out hbw)
  by_cases hlt : j < f.length
  · obtain ⟨g, c, cu, hp, hBg, hgl, hxl, hvu, hcu⟩ := hst.2.1.at hlt
    obtain ⟨ep1, _, ep3⟩ := Value.slice.inj hp
    subst ep1
    subst ep3
    have hyes := fun h => dropF_yes (name := name) hlt h
    have hno := fun h => dropF_no (name := name) hlt h
    generalize hu : f[j] = fu at hvu hxl hcu hyes hno
    obtain ⟨x, u⟩ := fu
    simp only [] at hvu hxl hcu hyes hno
    have HXL := Lib.hid hxl
    have HV := Lib.hid hvu
    obtain ⟨k1, b1, n1, s1, l1, f1⟩ := u
    obtain ⟨pl1, cl1, pf1, cf1, rfl, _⟩ := hasVal_mk.1 hvu
    obtain ⟨e0, e1, e2, e3, e4, e5, e6⟩ := hcu.seven
    rw [Nat.zero_add] at e0 e1 e2 e3 e4 e5 e6
    have hlenle : (dropF name (f.take j)).length ≤ j := Nat.le_trans (dropF_len _ _) (by rw [List.length_take]; omega)
    have HYES := Lib.hid hyes
    have HNO := Lib.hid hno
    clear hvu hu hcu hxl hyes hno hfu hbw hown hst hp
    obtain ⟨E, hE⟩ : ∃ E, E = isName name x := ⟨_, rfl⟩
    have hxe : ((bs x).toList == (bs name).toList) = E := by rw [tl_bs, tl_bs, hE]; rfl
    rw [← hE] at HYES HNO
    clear hE
    have hbx : Below wr.heap.size wr (wr.alloc (.cells #[.string (bs x), .int .u8 (k1 : Int), .bool b1, .int .i64 n1, .string (bs s1), .slice pl1 l1.length cl1, .slice pf1 f1.length cf1] 38)) := (Below.refl _ _).alloc (Nat.le_refl _) _
    have HBX := Lib.hid hbx
    have HQX := Lib.hid (IsBlk.new wr #[.string (bs x), .int .u8 (k1 : Int), .bool b1, .int .i64 n1, .string (bs s1), .slice pl1 l1.length cl1, .slice pf1 f1.length cf1] 38)
    clear hbx
    cases E
    · have hw5 : Below wr.heap.size wr ((wr.alloc (.cells #[.string (bs x), .int .u8 (k1 : Int), .bool b1, .int .i64 n1, .string (bs s1), .slice pl1 l1.length cl1, .slice pf1 f1.length cf1] 38)).alloc (.cells #[.string (bs x), .int .u8 (k1 : Int), .bool b1, .int .i64 n1, .string (bs s1), .slice pl1 l1.length cl1, .slice pf1 f1.length cf1] 38)) := ((Below.refl _ _).alloc (Nat.le_refl _) _).alloc (by simp) _
      have HW5 := Lib.hid hw5
      have HFU5 := Lib.hid (HFU.out.ext relF hw5)
      have hy : HasFld (fun z => (W0.heap.size ≤ z ∧ (Value.slice (some ⟨g, 0, none⟩) f.length c2).ownBlock ≠ some z) ∧ z < w1.heap.size) ((wr.alloc (.cells #[.string (bs x), .int .u8 (k1 : Int), .bool b1, .int .i64 n1, .string (bs s1), .slice pl1 l1.length cl1, .slice pf1 f1.length cf1] 38)).alloc (.cells #[.string (bs x), .int .u8 (k1 : Int), .bool b1, .int .i64 n1, .string (bs s1), .slice pl1 l1.length cl1, .slice pf1 f1.length cf1] 38)) (x, .mk k1 b1 n1 s1 l1 f1) [.string (bs x), .int .u8 (k1 : Int), .bool b1, .int .i64 n1, .string (bs s1), .slice pl1 l1.length cl1, .slice pf1 f1.length cf1] := ⟨_, rfl, HXL.out, HV.out.ext hw5⟩
      have HY := Lib.hid hy
      clear hw5 hy
      go_wp2_with (at_builtin; refine push_full relF W2.heap.size (fun z => (W0.heap.size ≤ z ∧ (Value.slice (some ⟨g, 0, none⟩) f.length c2).ownBlock ≠ some z) ∧ z < w1.heap.size) rfl _ _ 24 38 (.agg #[.string ⟨#[]⟩, .int .u8 0, .bool false, .int .i64 0, .string ⟨#[]⟩, .slice none 0 0, .slice none 0 0]) 96 rfl Tryd.underlying24 (by kernel_rfl) rfl (by decide) _ (dropF name (f.take j)) HFU5.out (fun z hz e => by have h6 := (HOW.out z e).1; have h7 := HB12.out.size; have h8 := hz.2; omega) (wr.heap.size + 1) [.string (bs x), .int .u8 (k1 : Int), .bool b1, .int .i64 n1, .string (bs s1), .slice pl1 l1.length cl1, .slice pf1 f1.length cf1] (x, .mk k1 b1 n1 s1 l1 f1) (IsBlk.new_at (by simp)) HY.out rfl rfl (by simp; omega) (by omega) (by unfold maxLen; omega) ?_)
      intro g1 cap w7 hacc hg hB1 hor hlt7
      have hfu7 : Full HasFld 7 W2.heap.size (fun z => (W0.heap.size ≤ z ∧ (Value.slice (some ⟨g, 0, none⟩) f.length c2).ownBlock ≠ some z) ∧ z < w1.heap.size) 38 w7 (.slice (some ⟨g1, 0, none⟩) ((dropF name (f.take j)).length + 1) cap) (dropF name (f.take (j + 1))) := by
        rw [HYES.out (by simp)]
        exact hacc.kept relF (fun _ h => h.1) (fun _ _ => rfl) (fun _ _ _ => rfl)
      have hbw7 : Below W2.heap.size W2 w7 := below_grown (below_ext HBW.out HW5.out) hg (by simp; omega) (fun z hz => (HOW.out z hz).1)
      have HF7 := Lib.hid (And.intro hfu7 hbw7)
      clear hacc hg hor hfu7 hbw7 hB1
      clear e0 e1 e2 e3 e4 e5 e6
      go_wp2
      go_roundw
      case rel => exact ⟨j + 1, by go_num, hlt, HF7.out.1, HF7.out.2⟩
      case measure => simp [intOf]; omega
    · go_wp2
      go_roundw
      case rel => exact ⟨j + 1, by go_num, hlt, by rw [HNO.out (by simp)]; exact HFU.out.ext relF HBX.out, below_ext HBW.out HBX.out⟩
      case measure => simp [intOf]; omega
  · obtain rfl : j = f.length := by omega
    rw [List.take_length] at hfu hown hnd2
    rw [List.take_length]
    have hst2 : StF W0.heap.size (fun z => (W0.heap.size ≤ z ∧ (Value.slice p2 f.length c2).ownBlock ≠ some z) ∧ z < w1.heap.size) wr p1 l (.slice q2 (dropF name f).length d2) (dropF name f) :=
      ⟨hst.1, full_base hfu (by have := HB12.out.size; have := HB1.out.size; omega), fun z hz => ⟨hz.1.1, fun e => by have h6 := (hown z e).1; have h7 := HB12.out.size; have h8 := hz.2; omega⟩⟩
    have hbo3 := HBO.out.ext hbw
    have hz3 := HZ2.out.ext hbw
    have hb3 := HBW2.out.trans (hbw.mono HBW2.out.size)
    have y5 := hbo3.cell (i := 5) rfl
    have f5 := hbo3.frozen 5
    have hl8 := hbo3.lt
    have HST8 := Lib.hid hst2
    have HBO8 := Lib.hid hbo3
    have HZ8 := Lib.hid hz3
    have HB8 := Lib.hid hb3
    have hown8 : ∀ z, (Value.slice q2 (dropF name f).length d2).ownBlock = some z → W2.heap.size ≤ z ∧ z < wr.heap.size := hown
    have HOWN8 := Lib.hid hown8
    clear hst hst2 hbo3 hz3 hb3 hown hown8 hfu HFU HOW hbw HBW hlt hnd2 hmd2
    go_upto_region 12 with (fail)
    generalize hW9 : World.setCell _ _ _ = W9
    have hbo9 : IsBlk W9 w1.heap.size #[.int .u8 6, .bool b, .int .i64 n, .string (bs s), .slice p1 l.length c1, .slice q2 (dropF name f).length d2] 26 := by rw [← hW9]; simpa using HBO8.out.set 5 (.slice q2 (dropF name f).length d2)
    have hoth9 : ∀ z, z ≠ w1.heap.size → W9.heap[z]? = wr.heap[z]? := fun z hz => by rw [← hW9, Below.heap_setCell _ _ _ _ hz]
    have hb9 : Below w.heap.size w W9 := by rw [← hW9]; exact below_set HB8.out (by omega)
    have hz9 : IsBlk W9 (w.heap.size + 1) ([.int .u8 0, .bool false, .int .i64 0, .string (bs []), .slice none 0 0, .slice none 0 0] : List Value).toArray 26 := (hoth9 _ (by omega)).trans HZ8.out
    have hend : ∀ W, (∀ z, z ≠ w.heap.size + 1 → W.heap[z]? = W9.heap[z]?) → HasVal (fun z => w.heap.size ≤ z) W R [.int .u8 6, .bool b, .int .i64 n, .string (bs s), .slice p1 l.length c1, .slice q2 (dropF name f).length d2] := by
      intro W ho
      rw [HRF.out]
      have hbd := HBD.out
      have hlen := dropF_len name f
      have hstW : StF W0.heap.size (fun z => (W0.heap.size ≤ z ∧ (Value.slice p2 f.length c2).ownBlock ≠ some z) ∧ z < w1.heap.size) W p1 l (.slice q2 (dropF name f).length d2) (dropF name f) := HST8.out.kept (fun z hz => by
        have h6 := HOWN8.out z hz
        have h7 := HB12.out.size
        rw [ho z (by omega), hoth9 z (by omega)]) (fun z hz _ => by
        have h6 := hz.1.1
        have h7 := hz.2
        rw [ho z (by omega), hoth9 z (by omega)])
      exact (st_fin hstW rfl ⟨hbd.1, hbd.2.1, hbd.2.2.1, hbd.2.2.2.1, hbd.2.2.2.2.1⟩ hlc hcm (by omega) (B' := w.heap.size) (by omega)).1
    have v0 := hbo9.cell (i := 0) rfl
    have v1 := hbo9.cell (i := 1) rfl
    have v2 := hbo9.cell (i := 2) rfl
    have v3 := hbo9.cell (i := 3) rfl
    have v4 := hbo9.cell (i := 4) rfl
    have v5 := hbo9.cell (i := 5) rfl
    have z0 := hz9.cell (i := 0) rfl
    have z1 := hz9.cell (i := 1) rfl
    have z2 := hz9.cell (i := 2) rfl
    have z3 := hz9.cell (i := 3) rfl
    have z4 := hz9.cell (i := 4) rfl
    have z5 := hz9.cell (i := 5) rfl
    have fz0 := hz9.frozen 0
    have fz1 := hz9.frozen 1
    have fz2 := hz9.frozen 2
    have fz3 := hz9.frozen 3
    have fz4 := hz9.frozen 4
    have fz5 := hz9.frozen 5
    have hl9 := hbo9.lt
    have hlz9 := hz9.lt
    have hze := And.intro (blk_setCells [.int .u8 6, .bool b, .int .i64 n, .string (bs s), .slice p1 l.length c1, .slice q2 (dropF name f).length d2] 0 W9 [.int .u8 0, .bool false, .int .i64 0, .string (bs []), .slice none 0 0, .slice none 0 0] hz9) (And.intro (hend _ (fun z hz => other_setCells hz [.int .u8 6, .bool b, .int .i64 n, .string (bs s), .slice p1 l.length c1, .slice q2 (dropF name f).length d2] 0 W9)) (below_setCells (B := w.heap.size) (w0 := w) (show w.heap.size ≤ w.heap.size + 1 by omega) [.int .u8 6, .bool b, .int .i64 n, .string (bs s), .slice p1 l.length c1, .slice q2 (dropF name f).length d2] 0 W9 hb9))
    have HFN := Lib.hid hze
    clear hbo9 hoth9 hb9 hz9 hend hze hW9 y5 f5
    go_wp2
    exact bodyPost_ret (results_ct (p := 4) (u := 5) (ty := 26) Tryd.results27 rfl HFN.out.1 Tryd.underlying26 rfl (by kernel_rfl) rfl) rfl ⟨[.int .u8 6, .bool b, .int .i64 n, .string (bs s), .slice p1 l.length c1, .slice q2 (dropF name f).length d2], rfl, HFN.out.2.1, HFN.out.2.2⟩
end Go.Proofs.YthcojmpigdojoaaDoor
