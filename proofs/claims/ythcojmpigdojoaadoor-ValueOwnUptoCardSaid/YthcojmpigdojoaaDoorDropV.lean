/- value.Drop. Conditions: the struct lies in memory, its fields are no more than 2^20. -/
import Derived.Test.YthcojmpigdojoaaDoorPutV
set_option linter.unusedVariables false
set_option linter.unusedSimpArgs false
namespace Go.Proofs.YthcojmpigdojoaaDoor
open Go Go.RowKit Go.BigFrame
set_option maxRecDepth 100000

theorem named_new (name : List UInt8) (w : World) : Calls Tryd.prog 31 #[.string (bs name)] w fun e' w' => ∃ g, e' = .returned (.func (.func 53) #[] #[.pointer (some ⟨g, 0, none⟩)]) ∧ w.heap.size ≤ g ∧ g < w'.heap.size ∧ w'.cell? ⟨g, 0, none⟩ = some (.string (bs name)) ∧ Below w.heap.size w w' := by
  have hmf : ∀ (fn : Fn) (first cap : Array Value) (w : World), (Instr.makeFunc fn first cap).run Tryd.prog w = .ok (.func fn first cap) w := fun _ _ _ _ => rfl
  have hb0 : Below w.heap.size w (w.alloc (.cells #[.string (bs name)] 9)) := (Below.refl _ _).alloc (Nat.le_refl _) _
  have hc1 : IsBlk (w.alloc (.cells #[.string (bs name)] 9)) w.heap.size #[.string (bs name)] 9 := IsBlk.new _ _ _
  have HC := Lib.hid hc1
  have HB := Lib.hid hb0
  clear hc1 hb0
  go_enter Tryd.func31, Tryd.ntmps31
  go_wp2
  go_ret
  exact ⟨w.heap.size, rfl, Nat.le_refl _, HC.out.lt, HC.out.cell (i := 0) rfl, HB.out⟩
theorem dropF_length (name : List UInt8) (f : List (List UInt8 × DVal)) : (dropF name f).length ≤ f.length := List.length_filter_le _ _
set_option maxHeartbeats 8000000 in
theorem drop_any (k : Nat) (b : Bool) (n : Int) (s : List UInt8) (l : List DVal) (f : List (List UInt8 × DVal)) (name : List UInt8) (S : Nat → Prop) (cs : List Value) (w : World) (hv : HasVal S w (.mk k b n s l f) cs) (hfl : f.length ≤ 1048577) :
    Calls Tryd.prog 26 #[.agg cs.toArray, .string (bs name)] w fun e' w' => ∃ cs', e' = .returned (.tuple #[.agg cs'.toArray, .int .i64 (if k = 6 then 0 else 5)]) ∧ HasVal (fun z => w.heap.size ≤ z) w' (dropV name (.mk k b n s l f)) cs' ∧ OwnRows w.heap.size w' cs' (dropV name (.mk k b n s l f)) ∧ Below w.heap.size w w' := by
  have HV := Lib.hid hv
  have hv' := hv
  obtain ⟨R, hR⟩ : ∃ R, R = dropV name (.mk k b n s l f) := ⟨_, rfl⟩
  rw [← hR]
  have HR := Lib.hid hR
  obtain ⟨pl, cl, pf, cf, rfl, hbd, _⟩ := hasVal_mk.1 hv'
  have HBD := Lib.hid hbd
  clear hv hv' hbd hR
  by_cases hk : k = 6
  case neg =>
    have hkb : ((k : Int) != 6) = true := by simp; omega
    rw [if_neg hk]
    have HZ0 : Hid (R = .zero) := Lib.hid (by rw [HR.out, dropV, if_neg hk])
    clear hk
    show Calls Tryd.prog 26 #[.agg #[.int .u8 (k : Int), .bool b, .int .i64 n, .string (bs s), .slice pl l.length cl, .slice pf f.length cf], .string (bs name)] w _
    have hz4 : IsBlk ((w.alloc (.cells #[.int .u8 (k : Int), .bool b, .int .i64 n, .string (bs s), .slice pl l.length cl, .slice pf f.length cf] 26)).alloc (.cells #[.int .u8 0, .bool false, .int .i64 0, .string (bs []), .slice none 0 0, .slice none 0 0] 26)) (w.heap.size + 1) #[.int .u8 0, .bool false, .int .i64 0, .string (bs []), .slice none 0 0, .slice none 0 0] 26 := IsBlk.new_at (by simp)
    have hb4 : Below w.heap.size w ((w.alloc (.cells #[.int .u8 (k : Int), .bool b, .int .i64 n, .string (bs s), .slice pl l.length cl, .slice pf f.length cf] 26)).alloc (.cells #[.int .u8 0, .bool false, .int .i64 0, .string (bs []), .slice none 0 0, .slice none 0 0] 26)) := ((Below.refl _ _).alloc (Nat.le_refl _) _).alloc (by simp) _
    have HF := Lib.hid (And.intro hz4 hb4)
    clear hz4 hb4
    go_enter Tryd.func26, Tryd.ntmps26
    go_wp2
    exact bodyPost_ret (results_ct (p := 4) (u := 5) (ty := 26) Tryd.results26 rfl HF.out.1 Tryd.underlying26 rfl (by kernel_rfl) rfl) rfl ⟨[.int .u8 0, .bool false, .int .i64 0, .string (bs []), .slice none 0 0, .slice none 0 0], rfl, by rw [HZ0.out]; exact zero_has' _ _, by rw [HZ0.out]; exact own_zero _ _, HF.out.2⟩
  subst hk
  rw [if_pos rfl]
  show Calls Tryd.prog 26 #[.agg #[.int .u8 6, .bool b, .int .i64 n, .string (bs s), .slice pl l.length cl, .slice pf f.length cf], .string (bs name)] w _
  have HRF : Hid (R = .mk 6 b n s l (dropF name f)) := Lib.hid (by rw [HR.out, dropV, if_pos rfl])
  go_enter Tryd.func26, Tryd.ntmps26
  go_upto_region 1 with (fail)
  generalize hW0 : World.alloc (World.alloc w _) _ = W0
  have hd1 : IsBlk W0 w.heap.size #[.int .u8 6, .bool b, .int .i64 n, .string (bs s), .slice pl l.length cl, .slice pf f.length cf] 26 := by rw [← hW0]; exact (IsBlk.new _ _ _).alloc _
  have hd4 : IsBlk W0 (w.heap.size + 1) #[.int .u8 0, .bool false, .int .i64 0, .string (bs []), .slice none 0 0, .slice none 0 0] 26 := by rw [← hW0]; exact IsBlk.new_at (by simp)
  have hb0 : Below w.heap.size w W0 := by rw [← hW0]; exact ((Below.refl _ _).alloc (Nat.le_refl _) _).alloc (by simp) _
  have hlt4 : w.heap.size + 1 < W0.heap.size := hd4.lt
  clear hW0
  have x0 := hd1.cell (i := 0) rfl
  have x1 := hd1.cell (i := 1) rfl
  have x2 := hd1.cell (i := 2) rfl
  have x3 := hd1.cell (i := 3) rfl
  have x4 := hd1.cell (i := 4) rfl
  have x5 := hd1.cell (i := 5) rfl
  have HD4 := Lib.hid hd4
  have HB0 := Lib.hid hb0
  have hlt1 := hd1.lt
  clear hd1 hd4 hb0
  go_wp2_with fail
  go_at_call 29
  refine (own_any (.mk 6 b n s l f) _ _ W0 (HV.out.ext HB0.out)).mono ?_
  rintro e' w1 ⟨cs', rfl, _, hrows, hb1⟩
  obtain ⟨p1, c1, p2, c2, rfl, hlc, hcm, hnc2, hm2, hst⟩ := st_own hrows
  have hown : ∀ z, (Value.slice p2 f.length c2).ownBlock = some z → W0.heap.size ≤ z ∧ z < w1.heap.size := hst.2.1.lt
  have HST := Lib.hid hst
  have HOWN := Lib.hid hown
  have hz1 := hb1.size
  have HB1 := Lib.hid hb1
  clear hrows hst hown hb1 x0 x1 x2 x3 x4 x5
  go_upto_region 4 with (fail)
  generalize hW2 : World.alloc w1 _ = W2
  have hbo : IsBlk W2 w1.heap.size #[.int .u8 6, .bool b, .int .i64 n, .string (bs s), .slice p1 l.length c1, .slice p2 f.length c2] 26 := by rw [← hW2]; exact IsBlk.new _ _ _
  have hb12 : Below w1.heap.size w1 W2 := by rw [← hW2]; exact (Below.refl _ _).alloc (Nat.le_refl _) _
  have hlo := hbo.lt
  have y5 := hbo.cell (i := 5) rfl
  have HBO := Lib.hid hbo
  have HB12 := Lib.hid hb12
  clear hW2 hbo hb12
  refine mixB_start [4, 5, 6] (Cls W2) (by kernel_rfl) (Cls.of ((Below.refl _ _).drew)) (fun hCw => ?_)
  refine mixB_flt (by kernel_rfl) [0, 1, 2] 4 _ _ hCw (by kernel_rfl) ?_
  simp only [opsAt, List.map_cons, List.map_nil, List.toList_toArray, List.getD_cons_succ, List.getD_cons_zero]
  unfold Cls
  repeat (go_big_quiet_step (fail))
  refine wpQuiet_nil ?_
  (try rw [← Cls_def])
  refine mixB_ch (i := 3) (fuel := 3) (by kernel_rfl) (by kernel_rfl) ?_
  simp only [opsAt, List.map_cons, List.map_nil, List.toList_toArray, List.getD_cons_succ, List.getD_cons_zero]
  go_wp2_with (go_at_call 31; refine (named_new name _).mono ?_; rintro e' w3 ⟨gn, rfl, hgn1, hgn, hcn, hb3⟩; have hC2 := hCw; have hC3 := hCw.trans hb3)
  refine ThenB.mk (hC3) (fun hCw => ?_)
  refine mixB_end [4, 5, 6] (by kernel_rfl) ?_
  simp only [opsAt, List.map_cons, List.map_nil, List.toList_toArray, List.getD_cons_succ, List.getD_cons_zero]
  have hb23 := hC3.below
  have hb13 := below_ext HB12.out hb23
  have hz3 := hb23.size
  have hbo3 := HBO.out.ext hb23
  have hl3 := hbo3.lt
  have hst3 := HST.out.ext hb13
  have hgn2 : w1.heap.size ≤ gn := Nat.le_trans (Nat.le_trans HB12.out.size hC2.below.size) hgn1
  have hdel := delete_any name f W0.heap.size (.slice p2 f.length c2) gn w3 (fun z => (W0.heap.size ≤ z ∧ (Value.slice p2 f.length c2).ownBlock ≠ some z) ∧ z < w1.heap.size) hst3.2.1 (fun z hz => (hst3.2.2 z hz).2) hgn (fun e => by have h7 := (HOWN.out _ e).2; omega) hcn (by have h7 := hb13.size; omega) (by omega)
  have hz4 := HD4.out.ext (HB1.out.trans (hb13.mono hz1))
  have hb03 : Below w.heap.size w w3 := HB0.out.trans ((HB1.out.trans (hb13.mono hz1)).mono HB0.out.size)
  clear y5
  have y5 := hbo3.cell (i := 5) rfl
  have f5 := hbo3.frozen 5
  have HDEL := Lib.hid hdel
  have HBO3 := Lib.hid hbo3
  have HZ4 := Lib.hid hz4
  have HB03 := Lib.hid hb03
  have HST3 := Lib.hid hst3
  clear hdel hbo3 hz4 hb03 hst3 hb13 hb23 hb3 hcn hlo hCw hC2
  go_wp2_with fail
  go_at_call 50
  refine HDEL.out.mono ?_
  rintro e' w8 ⟨p3, c3, rfl, hfull, hg, how⟩
  have hoth8 : ∀ z, z < w3.heap.size → (Value.slice p2 f.length c2).ownBlock ≠ some z → w8.heap[z]? = w3.heap[z]? := fun z hz hne => hg.block z hz (fun e => hne e.symm)
  have hbo8 : IsBlk w8 w1.heap.size _ 26 := (hoth8 _ hl3 (fun e => by have := (HOWN.out _ e).2; omega)).trans HBO3.out
  have hz8 : IsBlk w8 (w.heap.size + 1) _ 26 := (hoth8 _ (by omega) (fun e => by have := (HOWN.out _ e).1; omega)).trans HZ4.out
  have hb8 : Below w.heap.size w w8 := HB03.out.grown hg (by omega) (fun z hz => by have := (HOWN.out z hz).1; omega)
  have hst8 : StF W0.heap.size (fun z => (W0.heap.size ≤ z ∧ (Value.slice p2 f.length c2).ownBlock ≠ some z) ∧ z < w1.heap.size) w8 p1 l (.slice p3 (dropF name f).length c3) (dropF name f) :=
    ⟨HST3.out.1.ext_to (fun _ h => h) (fun z hz hlt => hoth8 z hlt (HST3.out.2.2 z hz).2), hfull, fun z hz => ⟨(HST3.out.2.2 z hz).1, fun e => (HST3.out.2.2 z hz).2 (by rw [← how]; exact e)⟩⟩
  have hown8 : ∀ z, (Value.slice p3 (dropF name f).length c3).ownBlock = some z → W0.heap.size ≤ z ∧ z < w1.heap.size := fun z hz => HOWN.out z (by rw [← how]; exact hz)
  clear y5 f5
  have y5 := hbo8.cell (i := 5) rfl
  have f5 := hbo8.frozen 5
  have hl8 := hbo8.lt
  have HST8 := Lib.hid hst8
  have HBO8 := Lib.hid hbo8
  have HZ8 := Lib.hid hz8
  have HB8 := Lib.hid hb8
  have HOWN8 := Lib.hid hown8
  clear hfull hg how hoth8 hbo8 hz8 hb8 hst8 hown8
  rw [show (List.filter (fun q => !isName name q.1) f).length = (dropF name f).length from rfl]
  go_wp2
  refine Calm.normal ?_
  generalize hW9 : World.setCell _ _ _ = W9
  have hbo9 : IsBlk W9 w1.heap.size #[.int .u8 6, .bool b, .int .i64 n, .string (bs s), .slice p1 l.length c1, .slice p3 (dropF name f).length c3] 26 := by rw [← hW9]; simpa using HBO8.out.set 5 (.slice p3 (dropF name f).length c3)
  have hoth9 : ∀ z, z ≠ w1.heap.size → W9.heap[z]? = w8.heap[z]? := fun z hz => by rw [← hW9, Below.heap_setCell _ _ _ _ hz]
  have hb9 : Below w.heap.size w W9 := by rw [← hW9]; exact below_set HB8.out (by omega)
  have hz9 : IsBlk W9 (w.heap.size + 1) ([.int .u8 0, .bool false, .int .i64 0, .string (bs []), .slice none 0 0, .slice none 0 0] : List Value).toArray 26 := (hoth9 _ (by omega)).trans HZ8.out
  have hs9 : W9.heap.size = w8.heap.size := by rw [← hW9]; simp
  have hend : ∀ W, (∀ z, z ≠ w.heap.size + 1 → W.heap[z]? = W9.heap[z]?) → HasVal (fun z => w.heap.size ≤ z) W R [.int .u8 6, .bool b, .int .i64 n, .string (bs s), .slice p1 l.length c1, .slice p3 (dropF name f).length c3] ∧ OwnRows w.heap.size W [.int .u8 6, .bool b, .int .i64 n, .string (bs s), .slice p1 l.length c1, .slice p3 (dropF name f).length c3] R := by
    intro W ho
    rw [HRF.out]
    have hbd := HBD.out
    have hlen := dropF_length name f
    have hstW : StF W0.heap.size (fun z => (W0.heap.size ≤ z ∧ (Value.slice p2 f.length c2).ownBlock ≠ some z) ∧ z < w1.heap.size) W p1 l (.slice p3 (dropF name f).length c3) (dropF name f) := HST8.out.kept (fun z hz => by
      have h6 := HOWN8.out z hz
      rw [ho z (by omega), hoth9 z (by omega)]) (fun z hz _ => by
      have h6 := hz.1.1
      have h7 := hz.2
      rw [ho z (by omega), hoth9 z (by omega)])
    exact st_fin hstW rfl ⟨hbd.1, hbd.2.1, hbd.2.2.1, hbd.2.2.2.1, hbd.2.2.2.2.1⟩ hlc hcm (by omega) (B' := w.heap.size) (by omega)
  have v0 := hbo9.cell (i := 0) rfl
  have v1 := hbo9.cell (i := 1) rfl
  have v2 := hbo9.cell (i := 2) rfl
  have v3 := hbo9.cell (i := 3) rfl
  have v4 := hbo9.cell (i := 4) rfl
  have v5 := hbo9.cell (i := 5) rfl
  have z0 := hz9.cell (i := 0) rfl
  have z1 := hz9.cell (i := 1) rfl
  have z2 := hz9.cell (i := 2) rfl
  have z3 := hz9.cell (i := 3) rfl
  have z4 := hz9.cell (i := 4) rfl
  have z5 := hz9.cell (i := 5) rfl
  have fz0 := hz9.frozen 0
  have fz1 := hz9.frozen 1
  have fz2 := hz9.frozen 2
  have fz3 := hz9.frozen 3
  have fz4 := hz9.frozen 4
  have fz5 := hz9.frozen 5
  have hl9 := hbo9.lt
  have hlz9 := hz9.lt
  have hze := And.intro (blk_setCells [.int .u8 6, .bool b, .int .i64 n, .string (bs s), .slice p1 l.length c1, .slice p3 (dropF name f).length c3] 0 W9 [.int .u8 0, .bool false, .int .i64 0, .string (bs []), .slice none 0 0, .slice none 0 0] hz9) (And.intro (hend _ (fun z hz => other_setCells hz [.int .u8 6, .bool b, .int .i64 n, .string (bs s), .slice p1 l.length c1, .slice p3 (dropF name f).length c3] 0 W9)) (below_setCells (B := w.heap.size) (w0 := w) (show w.heap.size ≤ w.heap.size + 1 by omega) [.int .u8 6, .bool b, .int .i64 n, .string (bs s), .slice p1 l.length c1, .slice p3 (dropF name f).length c3] 0 W9 hb9))
  have HFN := Lib.hid hze
  clear hbo9 hoth9 hb9 hz9 hend hze hW9 y5 f5 hs9
  go_wp2
  exact bodyPost_ret (results_ct (p := 4) (u := 5) (ty := 26) Tryd.results26 rfl HFN.out.1 Tryd.underlying26 rfl (by kernel_rfl) rfl) rfl ⟨[.int .u8 6, .bool b, .int .i64 n, .string (bs s), .slice p1 l.length c1, .slice p3 (dropF name f).length c3], rfl, HFN.out.2.1.1, HFN.out.2.1.2, HFN.out.2.2⟩
end Go.Proofs.YthcojmpigdojoaaDoor
