/- bin's writer.value. Condition: the value lies in memory below what the call owns. -/
import Derived.Test.YtghkeilgdmnnlaaDoorBinText
import Derived.Test.YtghkeilgdmnnlaaDoorMixW
import Derived.Laws.Bits64b
import Derived.Deep.DeepCutAuto
set_option linter.unusedVariables false
set_option linter.unusedSimpArgs false
namespace Go.Proofs.YtghkeilgdmnnlaaDoor
open Go Go.RowKit Go.BigFrame
set_option maxRecDepth 100000

/-- What the writer does with a value. -/
def WvOk (v : DVal) : Prop := ∀ (S : Nat → Prop) (cs : List Value) (B g : Nat) (l : List UInt8) (w : World), Buf B g 49 l w → B ≤ w.heap.size → (∀ b, S b → b < B) → HasVal S w v cs → l.length + (textV v).length + 64 ≤ 140737488355328 →
  Calls Tryd.prog 24 #[.pointer (some ⟨g, 0, none⟩), .agg cs.toArray] w fun e' w' => e' = .returned (.tuple #[]) ∧ Buf B g 49 (l ++ textV v) w' ∧ Below B w w' ∧ KeptT g w w'
set_option maxHeartbeats 1000000 in
theorem wv_list (l : List DVal) (hok : ∀ v ∈ l, WvOk v) (S : Nat → Prop) (B g h1 h2 : Nat) (k : Int) (b : Bool) (n : Int) (s : List UInt8) (pl : Option Addr) (cl : Nat) (pf : Option Addr) (lf cf : Nat) (hll : l.length ≤ 1073741824) (i : Nat) (l' : List UInt8) (wx : World) (hi : i < l.length)
    (hB : Buf B g 49 l' wx) (hBw : B ≤ wx.heap.size) (hS : ∀ b, S b → b < B) (hL : HasL S wx pl l)
    (hb1 : IsBlk wx h1 #[.pointer (some ⟨g, 0, none⟩)] 73) (hb2 : IsBlk wx h2 #[.int .u8 k, .bool b, .int .i64 n, .string (bs s), .slice pl l.length cl, .slice pf lf cf] 26)
    (hl : l'.length + (tsL l i).length + 64 ≤ 140737488355328) :
    Calls Tryd.prog 43 #[.int .i64 (i : Int), .pointer (some ⟨h1, 0, none⟩), .pointer (some ⟨h2, 0, none⟩)] wx fun e' w' => e' = .returned (.tuple #[]) ∧ Buf B g 49 (l' ++ tsL l i) w' ∧ Below B wx w' ∧ KeptT g wx w' := by
  have hok1 := hok _ (List.getElem_mem hi)
  rw [tsL_at hi] at hl ⊢
  obtain ⟨gl, o, cs, hpl, hcells, hval⟩ := hL i hi
  generalize l[i] = v at hok1 hl hval ⊢
  have hbl := hb1.lt
  have hbl2 := hb2.lt
  have HV := Lib.hid hval
  obtain ⟨k1, b1, n1, s1, l1, f1⟩ := v
  obtain ⟨pl1, cl1, pf1, cf1, rfl, hbd, _, _⟩ := hasVal_mk.1 hval
  clear hval hbd hok
  obtain ⟨e0, e1, e2, e3, e4, e5⟩ := hcells.six
  have hgl := hcells.2.1
  clear hcells
  subst hpl
  have c1 : wx.cell? ⟨h1, 0, none⟩ = some (.pointer (some ⟨g, 0, none⟩)) := hb1.cell rfl
  have c2 : wx.cell? ⟨h2, 4, none⟩ = some (.slice (some ⟨gl, o, none⟩) l.length cl) := hb2.cell rfl
  obtain ⟨ll, hlle⟩ : ∃ ll, ll = l.length := ⟨_, rfl⟩
  rw [← hlle] at c2 hi hll
  have HOK := Lib.hid hok1; clear hok1
  have HB := Lib.hid hB; clear hB
  clear hb1 hb2 hL hlle
  have HSS := Lib.hid hS; clear hS
  go_enter Tryd.func43, Tryd.ntmps43
  go_wp2
  refine mix_start [6] (Cls wx) (by kernel_rfl) (Cls.of ((Below.refl _ _).drew)) ?_
  refine mix_flt (by kernel_rfl) [0, 1, 2, 3, 4, 5] 1 _ _ (by kernel_rfl) ?_
  simp only [opsAt, List.map_cons, List.map_nil, List.toList_toArray, List.getD_cons_succ, List.getD_cons_zero]
  unfold Cls
  repeat (go_big_quiet_step (fail))
  refine wpQuiet_nil ?_
  (try rw [← Cls_def])
  refine mix_end [6] (by kernel_rfl) (fun w1 hw1 => ?_)
  simp only [opsAt, List.map_cons, List.map_nil, List.toList_toArray, List.getD_cons_succ, List.getD_cons_zero]
  go_wp2_with fail
  go_at_call 24
  refine (HOK.out S _ B g l' w1 (HB.out.ext hw1.below) (Nat.le_trans hBw hw1.below.size) HSS.out (HV.out.ext hw1.below) hl).mono ?_
  rintro e' w2 ⟨rfl, hb, hbw, hkt⟩
  have HB2 := Lib.hid hb; clear hb
  have HW2 := Lib.hid (Below.trans (hw1.below.mono hBw) (hbw.mono (Nat.le_refl _)))
  have HK2 := Lib.hid ((KeptT.of_below hw1.below).trans hkt); clear hkt
  clear hbw
  go_wp2
  refine Calm.normal ?_
  go_end0
  exact ⟨rfl, HB2.out, HW2.out, HK2.out⟩
set_option maxHeartbeats 2000000 in
theorem wv_fields (f : List (List UInt8 × DVal)) (hok : ∀ p ∈ f, WvOk p.2) (S : Nat → Prop) (B g h1 h2 : Nat) (k : Int) (b : Bool) (n : Int) (s : List UInt8) (pl : Option Addr) (ll cl : Nat) (pf : Option Addr) (cf : Nat) (hlf : f.length ≤ 1073741824) (i : Nat) (l' : List UInt8) (wx : World) (hi : i < f.length)
    (hB : Buf B g 49 l' wx) (hBw : B ≤ wx.heap.size) (hS : ∀ b, S b → b < B) (hF : HasF S wx pf f)
    (hb1 : IsBlk wx h1 #[.pointer (some ⟨g, 0, none⟩)] 73) (hb2 : IsBlk wx h2 #[.int .u8 k, .bool b, .int .i64 n, .string (bs s), .slice pl ll cl, .slice pf f.length cf] 26) (hg1 : h1 ≠ g) (hg2 : h2 ≠ g)
    (hl : l'.length + (tsF f i).length + 64 ≤ 140737488355328) :
    Calls Tryd.prog 44 #[.int .i64 (i : Int), .pointer (some ⟨h1, 0, none⟩), .pointer (some ⟨h2, 0, none⟩)] wx fun e' w' => e' = .returned (.tuple #[]) ∧ Buf B g 49 (l' ++ tsF f i) w' ∧ Below B wx w' ∧ KeptT g wx w' := by
  have hok1 := hok _ (List.getElem_mem hi)
  rw [tsF_at hi] at hl ⊢
  obtain ⟨gl, o, cs, hpf, ⟨hxl, hcells⟩, hval⟩ := hF i hi
  generalize f[i] = p at hok1 hl hval hxl hcells ⊢
  obtain ⟨x, v⟩ := p
  simp only [] at hok1 hl hval hxl hcells ⊢
  have HV := Lib.hid hval
  obtain ⟨k1, b1, n1, s1, l1, f1⟩ := v
  obtain ⟨pl1, cl1, pf1, cf1, rfl, hbd, _, _⟩ := hasVal_mk.1 hval
  clear hval hbd hok
  obtain ⟨e0, e1, e2, e3, e4, e5, e6⟩ := hcells.seven
  have hgl := hcells.2.1
  have hglB := hS _ hcells.1
  have HCE := Lib.hid hcells; clear hcells
  subst hpf
  have c1 : wx.cell? ⟨h1, 0, none⟩ = some (.pointer (some ⟨g, 0, none⟩)) := hb1.cell rfl
  have hbl := hb1.lt
  have hbl2 := hb2.lt
  have c2 : wx.cell? ⟨h2, 5, none⟩ = some (.slice (some ⟨gl, o, none⟩) f.length cf) := hb2.cell rfl
  obtain ⟨lf, hlfe⟩ : ∃ lf, lf = f.length := ⟨_, rfl⟩
  rw [← hlfe] at c2 hi hlf hb2
  obtain ⟨L1, hL1⟩ : ∃ L1, L1 = l' ++ bytesL x := ⟨_, rfl⟩
  have hfin : l' ++ (bytesL x ++ textV (.mk k1 b1 n1 s1 l1 f1)) = L1 ++ textV (.mk k1 b1 n1 s1 l1 f1) := by rw [hL1, List.append_assoc]
  have hl1 : L1.length + (textV (.mk k1 b1 n1 s1 l1 f1)).length + 64 ≤ 140737488355328 := by
    rw [hL1, List.length_append]
    rw [List.length_append] at hl
    omega
  have hxx : l'.length + x.length + 32 ≤ 140737488355328 := by
    rw [List.length_append, bytesL, List.length_append] at hl
    omega
  rw [hfin]
  clear hl hfin
  have HL1 := Lib.hid hL1; clear hL1
  have HOK := Lib.hid hok1; clear hok1
  have HB := Lib.hid hB; clear hB
  have HB1 := Lib.hid hb1; clear hb1
  have HB2 := Lib.hid hb2; clear hb2
  clear hF hlfe
  have HSS := Lib.hid hS; clear hS
  go_enter Tryd.func44, Tryd.ntmps44
  go_wp2
  refine mix_start [9] (Cls wx) (by kernel_rfl) (Cls.of ((Below.refl _ _).drew)) ?_
  refine mix_flt (by kernel_rfl) [0, 1, 2, 3, 4, 5, 6, 7, 8] 1 _ _ (by kernel_rfl) ?_
  simp only [opsAt, List.map_cons, List.map_nil, List.toList_toArray, List.getD_cons_succ, List.getD_cons_zero]
  unfold Cls
  repeat (go_big_quiet_step (fail))
  refine wpQuiet_nil ?_
  (try rw [← Cls_def])
  refine mix_end [9] (by kernel_rfl) (fun w1 hw1 => ?_)
  simp only [opsAt, List.map_cons, List.map_nil, List.toList_toArray, List.getD_cons_succ, List.getD_cons_zero]
  go_wp2_with fail
  go_at_call 41
  refine (buffer_text_any B g 49 (by decide) l' x w1 (HB.out.ext hw1.below) (Nat.le_trans hBw hw1.below.size) hxx).mono ?_
  rintro e' w2 ⟨rfl, hb, hbw, hkt⟩
  rw [← HL1.out] at hb
  have HBB := Lib.hid hb; clear hb
  have hw2 : Below B wx w2 := Below.trans (hw1.below.mono hBw) (hbw.mono (Nat.le_refl _))
  have hk2 : KeptT g wx w2 := (KeptT.of_below hw1.below).trans hkt
  have hc2 := HCE.out.kept (S' := S) (w' := w2) (fun _ h => h) (fun b hb _ => hw2.block b (HSS.out b hb))
  have hv2 := HV.out.ext_to (S' := S) (w' := w2) (fun _ h => h) (fun b hb _ => hw2.block b (HSS.out b hb))
  have hd1 := hk2.blk HB1.out (by decide) hg1
  have hd2 := hk2.blk HB2.out (by decide) hg2
  clear hbw hkt e0 e1 e2 e3 e4 e5 e6 c1 c2
  obtain ⟨e0, e1, e2, e3, e4, e5, e6⟩ := hc2.seven
  have c1 : w2.cell? ⟨h1, 0, none⟩ = some (.pointer (some ⟨g, 0, none⟩)) := hd1.cell rfl
  have c2 : w2.cell? ⟨h2, 5, none⟩ = some (.slice (some ⟨gl, o, none⟩) lf cf) := hd2.cell rfl
  have hsz2 := hw2.size
  have hgl2 := hc2.2.1
  have hlt1 := hd1.lt
  have hlt2 := hd2.lt
  have HW2 := Lib.hid hw2; clear hw2
  have HK2 := Lib.hid hk2; clear hk2
  have HV2 := Lib.hid hv2; clear hv2
  clear hc2 hd1 hd2 hbl hbl2 hgl
  go_wp2
  refine Calm.normal ?_
  go_wp2
  refine mix_start [7] (Cls w2) (by kernel_rfl) (Cls.of ((Below.refl _ _).drew)) ?_
  refine mix_flt (by kernel_rfl) [0, 1, 2, 3, 4, 5, 6] 1 _ _ (by kernel_rfl) ?_
  simp only [opsAt, List.map_cons, List.map_nil, List.toList_toArray, List.getD_cons_succ, List.getD_cons_zero]
  unfold Cls
  repeat (go_big_quiet_step (fail))
  refine wpQuiet_nil ?_
  (try rw [← Cls_def])
  refine mix_end [7] (by kernel_rfl) (fun w1 hw1 => ?_)
  simp only [opsAt, List.map_cons, List.map_nil, List.toList_toArray, List.getD_cons_succ, List.getD_cons_zero]
  go_wp2_with fail
  go_at_call 24
  refine (HOK.out S _ B g L1 w1 (HBB.out.ext hw1.below) (Nat.le_trans (by omega) hw1.below.size) HSS.out (HV2.out.ext hw1.below) hl1).mono ?_
  rintro e' w3 ⟨rfl, hb, hbw, hkt⟩
  have HB3 := Lib.hid hb; clear hb
  have HW3 := Lib.hid (Below.trans HW2.out (Below.trans (hw1.below.mono (by omega)) (hbw.mono (Nat.le_refl _))))
  have HK3 := Lib.hid (HK2.out.trans ((KeptT.of_below hw1.below).trans hkt)); clear hkt
  clear hbw
  go_wp2
  refine Calm.normal ?_
  go_end0
  exact ⟨rfl, HB3.out, HW3.out, HK3.out⟩
theorem grownD (w : World) (row : Option Nat) : w.grownBy w.drew row := ⟨rfl, rfl, rfl, Nat.le_refl _, fun _ _ _ => rfl⟩
set_option maxHeartbeats 8000000 in
theorem wv_step (k : Nat) (b : Bool) (n : Int) (s : List UInt8) (l : List DVal) (f : List (List UInt8 × DVal)) (hokL : ∀ v ∈ l, WvOk v) (hokF : ∀ p ∈ f, WvOk p.2) : WvOk (.mk k b n s l f) := by
  intro S cs B g L w hB hBw hS hv hlim
  obtain ⟨pl, cl, pf, cf, rfl, hbd, hL, hF⟩ := hasVal_mk.1 hv
  obtain ⟨hk256, hn0', hn1', hsl, hll, hlf, _⟩ := hbd
  clear hv
  obtain ⟨LV, hLV⟩ : ∃ LV, LV = textV (.mk k b n s l f) := ⟨_, rfl⟩
  rw [← hLV] at hlim ⊢
  obtain ⟨FL, hFL⟩ : ∃ FL, FL = L ++ LV := ⟨_, rfl⟩
  rw [← hFL]
  have HFL := Lib.hid hFL; clear hFL
  obtain ⟨ll, hlle⟩ : ∃ ll, ll = l.length := ⟨_, rfl⟩
  obtain ⟨lf, hlfe⟩ : ∃ lf, lf = f.length := ⟨_, rfl⟩
  have hsz := bs_size s
  have hgw : g < w.heap.size := by obtain ⟨_, v, h1, _⟩ := hB; exact h1.lt
  show Calls Tryd.prog 24 #[.pointer (some ⟨g, 0, none⟩), .agg #[.int .u8 (k : Int), .bool b, .int .i64 n, .string (bs s), .slice pl l.length cl, .slice pf f.length cf]] w _
  rw [← hlle, ← hlfe]
  rw [← hlle] at hll
  rw [← hlfe] at hlf
  have HLL := Lib.hid hlle; clear hlle
  have HLF := Lib.hid hlfe; clear hlfe
  have HLV := Lib.hid hLV; clear hLV
  have HL := Lib.hid hL; clear hL
  have HF := Lib.hid hF; clear hF
  have HB := Lib.hid hB; clear hB
  have HSS := Lib.hid hS; clear hS
  have HOL := Lib.hid hokL; clear hokL
  have HOF := Lib.hid hokF; clear hokF
  go_enter Tryd.func24, Tryd.ntmps24
  go_upto_region 1 with (fail)
  generalize hW0 : World.alloc (World.alloc w _) _ = W0
  have hd1 : IsBlk W0 w.heap.size #[.pointer (some ⟨g, 0, none⟩)] 73 := by rw [← hW0]; exact (IsBlk.new _ _ _).alloc _
  have hd2 : IsBlk W0 (w.heap.size + 1) #[.int .u8 (k : Int), .bool b, .int .i64 n, .string (bs s), .slice pl ll cl, .slice pf lf cf] 26 := by rw [← hW0]; exact IsBlk.new_at (by simp)
  have hb0 : Below w.heap.size w W0 := by rw [← hW0]; exact ((Below.refl _ _).alloc (Nat.le_refl _) _).alloc (by simp) _
  have hbuf0 := HB.out.ext hb0
  obtain ⟨p, c, hblk, hown⟩ := hbuf0.sl
  have hBg := hbuf0.1
  have hsz0 : w.heap.size + 2 ≤ W0.heap.size := by have := hd2.lt; omega
  have hB0 : B ≤ W0.heap.size := by omega
  clear hW0 hbuf0
  have c1 : W0.cell? ⟨w.heap.size, 0, none⟩ = some (.pointer (some ⟨g, 0, none⟩)) := hd1.cell rfl
  have c20 : W0.cell? ⟨w.heap.size + 1, 0, none⟩ = some (.int .u8 (k : Int)) := hd2.cell rfl
  have c21 : W0.cell? ⟨w.heap.size + 1, 1, none⟩ = some (.bool b) := hd2.cell rfl
  have c22 : W0.cell? ⟨w.heap.size + 1, 2, none⟩ = some (.int .i64 n) := hd2.cell rfl
  have c23 : W0.cell? ⟨w.heap.size + 1, 3, none⟩ = some (.string (bs s)) := hd2.cell rfl
  have c24 : W0.cell? ⟨w.heap.size + 1, 4, none⟩ = some (.slice pl ll cl) := hd2.cell rfl
  have c25 : W0.cell? ⟨w.heap.size + 1, 5, none⟩ = some (.slice pf lf cf) := hd2.cell rfl
  have c3 : W0.cell? ⟨g, 0, none⟩ = some (.slice p L.length c) := hblk.cell rfl
  have hn1 : Nu8 W0 w.heap.size := Nu8.of hd1 (by decide)
  have hn2 : Nu8 W0 (w.heap.size + 1) := Nu8.of hd2 (by decide)
  have hn3 : Nu8 W0 g := Nu8.of hblk (by decide)
  have HD1 := Lib.hid hd1; clear hd1
  have HD2 := Lib.hid hd2; clear hd2
  have HB0 := Lib.hid hb0; clear hb0
  have HBK := Lib.hid hblk; clear hblk
  have HO := Lib.hid hown; clear hown
  by_cases k0 : k = 0
  · skip
    have hLV0 : LV = [0] := by rw [HLV.out, k0, textV]; simp
    have q0 : ((k : Int) == 0) = true := by simp; omega
    clear k0
    obtain ⟨L1, hL1⟩ : ∃ L1, L1 = L ++ [0] := ⟨_, rfl⟩
    have hl1 : L1.length ≤ L.length + 1 := by rw [hL1]; simp
    have HL1 := Lib.hid hL1
    have HLV0 := Lib.hid hLV0
    clear hL1 hLV0
    have hlim2 : L.length + 64 ≤ 140737488355328 := by omega
    go_wp2
    refine mixW_start [11] (ClsT W0) (by kernel_rfl) (ClsT.drew W0) (fun hCw => ?_)
    refine mixW_flt (by kernel_rfl) [0, 1, 2, 3, 4, 5] 6 _ _ hCw (by kernel_rfl) ?_
    simp only [opsAt, List.map_cons, List.map_nil, List.toList_toArray, List.getD_cons_succ, List.getD_cons_zero]
    unfold ClsT
    repeat (go_big_quiet_step (fail))
    refine wpQuiet_nil ?_
    (try rw [← ClsT_def])
    refine mixW_ch (i := 6) (fuel := 5) (by kernel_rfl) _ rfl ?_
    go_wp2_with (fail)
    refine ThenW.mk (hCw.trans (KeptA.of_below ((Below.refl _ _).alloc (Nat.le_refl _) _))) (fun hCw => ?_)
    refine mixW_chL (i := 7) (fuel := 4) (by kernel_rfl) (by kernel_rfl) ?_
    simp only [opsAt, List.map_cons, List.map_nil, List.toList_toArray, List.getD_cons_succ, List.getD_cons_zero]
    refine push_byte B rfl _ _ 45 5 rfl Tryd.underlying45 (by kernel_rfl) _ L L1 0 0 rfl HL1.out W0.heap.size ((IsBlk.new _ _ _).drew) (own_ext (own_alloc HO.out _) ((Below.refl _ _).drew)) rfl rfl (by simp; omega) (by omega) ?_
    intro v1 w3 hown3 hg3
    go_simp
    go_wp2_with (fail)
    refine ThenW.mk (hCw.trans (KeptA.grown (own_ext (own_alloc HO.out _) ((Below.refl _ _).drew)) hg3)) (fun hCw => ?_)
    refine mixW_flt (by kernel_rfl) [8, 9, 10] 1 _ _ hCw (by kernel_rfl) ?_
    simp only [opsAt, List.map_cons, List.map_nil, List.toList_toArray, List.getD_cons_succ, List.getD_cons_zero]
    unfold ClsT
    repeat (go_big_quiet_step (fail))
    refine wpQuiet_nil ?_
    (try rw [← ClsT_def])
    refine mixW_end [11] (by kernel_rfl) ?_
    simp only [opsAt, List.map_cons, List.map_nil, List.toList_toArray, List.getD_cons_succ, List.getD_cons_zero]
    have hg4 : W0.grownBy w3 (Value.slice p L.length c).ownBlock := World.grownBy.trans (World.grownBy_alloc _ _ _) (World.grownBy.trans (grownD _ _) hg3)
    have hput := Buf.put (t := 49) (by decide) hBg HBK.out HO.out hown3 hg4 hB0
    have hb3 := blk_grown HBK.out hg4 (own_ne HO.out HBK.out (by decide))
    have f0 : w3.frozen? ⟨g, 0, none⟩ = false := hb3.frozen 0
    have d0 : w3.cell? ⟨g, 0, none⟩ = some (.slice p L.length c) := hb3.cell rfl
    have hv1 : ∃ p1 c1, v1 = .slice p1 L1.length c1 := by
      rcases hown3.2 with ⟨rfl, h0⟩ | ⟨g', cap, cur, rfl, _⟩
      · exact ⟨none, 0, by rw [h0]⟩
      · exact ⟨_, _, rfl⟩
    obtain ⟨p1, j1, rfl⟩ := hv1
    have HP := Lib.hid hput
    clear hput hb3 hg3 hg4 hown3 hCw
    go_wp2
    refine Calm.normal ?_
    go_end0
    exact ⟨rfl, by rw [HFL.out, HLV0.out, ← HL1.out]; exact HP.out.1, Below.trans (HB0.out.mono hBw) (HP.out.2.1.mono (Nat.le_refl _)), (KeptT.of_below HB0.out).trans HP.out.2.2⟩
  have q0 : ((k : Int) == 0) = false := by simp; omega
  by_cases k1 : k = 1
  · cases b
    · skip
      have hLV0 : LV = [1] := by rw [HLV.out, k1, textV]; simp
      have q1 : ((k : Int) == 1) = true := by simp; omega
      clear k1
      obtain ⟨L1, hL1⟩ : ∃ L1, L1 = L ++ [1] := ⟨_, rfl⟩
      have hl1 : L1.length ≤ L.length + 1 := by rw [hL1]; simp
      have HL1 := Lib.hid hL1
      have HLV0 := Lib.hid hLV0
      clear hL1 hLV0
      have hlim2 : L.length + 64 ≤ 140737488355328 := by omega
      go_wp2
      refine mixW_start [12] (ClsT W0) (by kernel_rfl) (ClsT.drew W0) (fun hCw => ?_)
      refine mixW_flt (by kernel_rfl) [0, 1, 2, 3, 4, 5, 6] 6 _ _ hCw (by kernel_rfl) ?_
      simp only [opsAt, List.map_cons, List.map_nil, List.toList_toArray, List.getD_cons_succ, List.getD_cons_zero]
      unfold ClsT
      repeat (go_big_quiet_step (fail))
      refine wpQuiet_nil ?_
      (try rw [← ClsT_def])
      refine mixW_ch (i := 7) (fuel := 5) (by kernel_rfl) _ rfl ?_
      go_wp2_with (fail)
      refine ThenW.mk (hCw.trans (KeptA.of_below ((Below.refl _ _).alloc (Nat.le_refl _) _))) (fun hCw => ?_)
      refine mixW_chL (i := 8) (fuel := 4) (by kernel_rfl) (by kernel_rfl) ?_
      simp only [opsAt, List.map_cons, List.map_nil, List.toList_toArray, List.getD_cons_succ, List.getD_cons_zero]
      refine push_byte B rfl _ _ 45 5 rfl Tryd.underlying45 (by kernel_rfl) _ L L1 1 1 rfl HL1.out W0.heap.size ((IsBlk.new _ _ _).drew) (own_ext (own_alloc HO.out _) ((Below.refl _ _).drew)) rfl rfl (by simp; omega) (by omega) ?_
      intro v1 w3 hown3 hg3
      go_simp
      go_wp2_with (fail)
      refine ThenW.mk (hCw.trans (KeptA.grown (own_ext (own_alloc HO.out _) ((Below.refl _ _).drew)) hg3)) (fun hCw => ?_)
      refine mixW_flt (by kernel_rfl) [9, 10, 11] 1 _ _ hCw (by kernel_rfl) ?_
      simp only [opsAt, List.map_cons, List.map_nil, List.toList_toArray, List.getD_cons_succ, List.getD_cons_zero]
      unfold ClsT
      repeat (go_big_quiet_step (fail))
      refine wpQuiet_nil ?_
      (try rw [← ClsT_def])
      refine mixW_end [12] (by kernel_rfl) ?_
      simp only [opsAt, List.map_cons, List.map_nil, List.toList_toArray, List.getD_cons_succ, List.getD_cons_zero]
      have hg4 : W0.grownBy w3 (Value.slice p L.length c).ownBlock := World.grownBy.trans (World.grownBy_alloc _ _ _) (World.grownBy.trans (grownD _ _) hg3)
      have hput := Buf.put (t := 49) (by decide) hBg HBK.out HO.out hown3 hg4 hB0
      have hb3 := blk_grown HBK.out hg4 (own_ne HO.out HBK.out (by decide))
      have f0 : w3.frozen? ⟨g, 0, none⟩ = false := hb3.frozen 0
      have d0 : w3.cell? ⟨g, 0, none⟩ = some (.slice p L.length c) := hb3.cell rfl
      have hv1 : ∃ p1 c1, v1 = .slice p1 L1.length c1 := by
        rcases hown3.2 with ⟨rfl, h0⟩ | ⟨g', cap, cur, rfl, _⟩
        · exact ⟨none, 0, by rw [h0]⟩
        · exact ⟨_, _, rfl⟩
      obtain ⟨p1, j1, rfl⟩ := hv1
      have HP := Lib.hid hput
      clear hput hb3 hg3 hg4 hown3 hCw
      go_wp2
      refine Calm.normal ?_
      go_end0
      exact ⟨rfl, by rw [HFL.out, HLV0.out, ← HL1.out]; exact HP.out.1, Below.trans (HB0.out.mono hBw) (HP.out.2.1.mono (Nat.le_refl _)), (KeptT.of_below HB0.out).trans HP.out.2.2⟩
    · skip
      have hLV0 : LV = [2] := by rw [HLV.out, k1, textV]; simp
      have q1 : ((k : Int) == 1) = true := by simp; omega
      clear k1
      obtain ⟨L1, hL1⟩ : ∃ L1, L1 = L ++ [2] := ⟨_, rfl⟩
      have hl1 : L1.length ≤ L.length + 1 := by rw [hL1]; simp
      have HL1 := Lib.hid hL1
      have HLV0 := Lib.hid hLV0
      clear hL1 hLV0
      have hlim2 : L.length + 64 ≤ 140737488355328 := by omega
      go_wp2
      refine mixW_start [12] (ClsT W0) (by kernel_rfl) (ClsT.drew W0) (fun hCw => ?_)
      refine mixW_flt (by kernel_rfl) [0, 1, 2, 3, 4, 5, 6] 6 _ _ hCw (by kernel_rfl) ?_
      simp only [opsAt, List.map_cons, List.map_nil, List.toList_toArray, List.getD_cons_succ, List.getD_cons_zero]
      unfold ClsT
      repeat (go_big_quiet_step (fail))
      refine wpQuiet_nil ?_
      (try rw [← ClsT_def])
      refine mixW_ch (i := 7) (fuel := 5) (by kernel_rfl) _ rfl ?_
      go_wp2_with (fail)
      refine ThenW.mk (hCw.trans (KeptA.of_below ((Below.refl _ _).alloc (Nat.le_refl _) _))) (fun hCw => ?_)
      refine mixW_chL (i := 8) (fuel := 4) (by kernel_rfl) (by kernel_rfl) ?_
      simp only [opsAt, List.map_cons, List.map_nil, List.toList_toArray, List.getD_cons_succ, List.getD_cons_zero]
      refine push_byte B rfl _ _ 45 5 rfl Tryd.underlying45 (by kernel_rfl) _ L L1 2 2 rfl HL1.out W0.heap.size ((IsBlk.new _ _ _).drew) (own_ext (own_alloc HO.out _) ((Below.refl _ _).drew)) rfl rfl (by simp; omega) (by omega) ?_
      intro v1 w3 hown3 hg3
      go_simp
      go_wp2_with (fail)
      refine ThenW.mk (hCw.trans (KeptA.grown (own_ext (own_alloc HO.out _) ((Below.refl _ _).drew)) hg3)) (fun hCw => ?_)
      refine mixW_flt (by kernel_rfl) [9, 10, 11] 1 _ _ hCw (by kernel_rfl) ?_
      simp only [opsAt, List.map_cons, List.map_nil, List.toList_toArray, List.getD_cons_succ, List.getD_cons_zero]
      unfold ClsT
      repeat (go_big_quiet_step (fail))
      refine wpQuiet_nil ?_
      (try rw [← ClsT_def])
      refine mixW_end [12] (by kernel_rfl) ?_
      simp only [opsAt, List.map_cons, List.map_nil, List.toList_toArray, List.getD_cons_succ, List.getD_cons_zero]
      have hg4 : W0.grownBy w3 (Value.slice p L.length c).ownBlock := World.grownBy.trans (World.grownBy_alloc _ _ _) (World.grownBy.trans (grownD _ _) hg3)
      have hput := Buf.put (t := 49) (by decide) hBg HBK.out HO.out hown3 hg4 hB0
      have hb3 := blk_grown HBK.out hg4 (own_ne HO.out HBK.out (by decide))
      have f0 : w3.frozen? ⟨g, 0, none⟩ = false := hb3.frozen 0
      have d0 : w3.cell? ⟨g, 0, none⟩ = some (.slice p L.length c) := hb3.cell rfl
      have hv1 : ∃ p1 c1, v1 = .slice p1 L1.length c1 := by
        rcases hown3.2 with ⟨rfl, h0⟩ | ⟨g', cap, cur, rfl, _⟩
        · exact ⟨none, 0, by rw [h0]⟩
        · exact ⟨_, _, rfl⟩
      obtain ⟨p1, j1, rfl⟩ := hv1
      have HP := Lib.hid hput
      clear hput hb3 hg3 hg4 hown3 hCw
      go_wp2
      refine Calm.normal ?_
      go_end0
      exact ⟨rfl, by rw [HFL.out, HLV0.out, ← HL1.out]; exact HP.out.1, Below.trans (HB0.out.mono hBw) (HP.out.2.1.mono (Nat.le_refl _)), (KeptT.of_below HB0.out).trans HP.out.2.2⟩
  have q1 : ((k : Int) == 1) = false := by simp; omega
  by_cases k2 : k = 2
  · skip
    have hLV0 : LV = 3 :: numL (zigN n) := by rw [HLV.out, k2, textV]; simp
    have q2 : ((k : Int) == 2) = true := by simp; omega
    clear k2
    obtain ⟨L1, hL1⟩ : ∃ L1, L1 = L ++ [3] := ⟨_, rfl⟩
    have hl1 : L1.length ≤ L.length + 1 := by rw [hL1]; simp
    have HL1 := Lib.hid hL1
    have HLV0 := Lib.hid hLV0
    clear hL1 hLV0
    have hlim2 : L.length + 64 ≤ 140737488355328 := by omega
    go_wp2
    refine mixW_start [11] (ClsT W0) (by kernel_rfl) (ClsT.drew W0) (fun hCw => ?_)
    refine mixW_flt (by kernel_rfl) [0, 1, 2, 3, 4, 5] 6 _ _ hCw (by kernel_rfl) ?_
    simp only [opsAt, List.map_cons, List.map_nil, List.toList_toArray, List.getD_cons_succ, List.getD_cons_zero]
    unfold ClsT
    repeat (go_big_quiet_step (fail))
    refine wpQuiet_nil ?_
    (try rw [← ClsT_def])
    refine mixW_ch (i := 6) (fuel := 5) (by kernel_rfl) _ rfl ?_
    go_wp2_with (fail)
    refine ThenW.mk (hCw.trans (KeptA.of_below ((Below.refl _ _).alloc (Nat.le_refl _) _))) (fun hCw => ?_)
    refine mixW_chL (i := 7) (fuel := 4) (by kernel_rfl) (by kernel_rfl) ?_
    simp only [opsAt, List.map_cons, List.map_nil, List.toList_toArray, List.getD_cons_succ, List.getD_cons_zero]
    refine push_byte B rfl _ _ 45 5 rfl Tryd.underlying45 (by kernel_rfl) _ L L1 3 3 rfl HL1.out W0.heap.size ((IsBlk.new _ _ _).drew) (own_ext (own_alloc HO.out _) ((Below.refl _ _).drew)) rfl rfl (by simp; omega) (by omega) ?_
    intro v1 w3 hown3 hg3
    go_simp
    go_wp2_with (fail)
    refine ThenW.mk (hCw.trans (KeptA.grown (own_ext (own_alloc HO.out _) ((Below.refl _ _).drew)) hg3)) (fun hCw => ?_)
    refine mixW_flt (by kernel_rfl) [8, 9, 10] 1 _ _ hCw (by kernel_rfl) ?_
    simp only [opsAt, List.map_cons, List.map_nil, List.toList_toArray, List.getD_cons_succ, List.getD_cons_zero]
    unfold ClsT
    repeat (go_big_quiet_step (fail))
    refine wpQuiet_nil ?_
    (try rw [← ClsT_def])
    refine mixW_end [11] (by kernel_rfl) ?_
    simp only [opsAt, List.map_cons, List.map_nil, List.toList_toArray, List.getD_cons_succ, List.getD_cons_zero]
    have hg4 : W0.grownBy w3 (Value.slice p L.length c).ownBlock := World.grownBy.trans (World.grownBy_alloc _ _ _) (World.grownBy.trans (grownD _ _) hg3)
    have hput := Buf.put (t := 49) (by decide) hBg HBK.out HO.out hown3 hg4 hB0
    have hb3 := blk_grown HBK.out hg4 (own_ne HO.out HBK.out (by decide))
    have f0 : w3.frozen? ⟨g, 0, none⟩ = false := hb3.frozen 0
    have d0 : w3.cell? ⟨g, 0, none⟩ = some (.slice p L.length c) := hb3.cell rfl
    have hv1 : ∃ p1 c1, v1 = .slice p1 L1.length c1 := by
      rcases hown3.2 with ⟨rfl, h0⟩ | ⟨g', cap, cur, rfl, _⟩
      · exact ⟨none, 0, by rw [h0]⟩
      · exact ⟨_, _, rfl⟩
    obtain ⟨p1, j1, rfl⟩ := hv1
    have HP := Lib.hid hput
    clear hput hb3 hg3 hg4 hown3 hCw
    go_wp2
    refine Calm.normal ?_
    have hkw := (KeptT.of_below (g := g) HB0.out).trans HP.out.2.2
    have hbw := Below.trans (HB0.out.mono hBw) (HP.out.2.1.mono (Nat.le_refl _))
    have hd1 := HP.out.2.2.blk HD1.out (by decide) (by omega)
    have hd2 := HP.out.2.2.blk HD2.out (by decide) (by omega)
    have hbf := HP.out.1
    clear HP d0 f0 c1 c20 c21 c22 c23 c24 c25 c3 hn1 hn2 hn3
    go_upto_region 11 with (fail)
    generalize World.setCell w3 _ _ = W1 at hkw hbw hd1 hd2 hbf ⊢
    have c1 : W1.cell? ⟨w.heap.size, 0, none⟩ = some (.pointer (some ⟨g, 0, none⟩)) := hd1.cell rfl
    have c22 : W1.cell? ⟨w.heap.size + 1, 2, none⟩ = some (.int .i64 n) := hd2.cell rfl
    have c23 : W1.cell? ⟨w.heap.size + 1, 3, none⟩ = some (.string (bs s)) := hd2.cell rfl
    have hlt1 := hd1.lt
    have hlt2 := hd2.lt
    have HKW := Lib.hid hkw
    have HBW := Lib.hid hbw
    have HBF := Lib.hid hbf
    clear hkw hbw hbf hd1 hd2
    have hB1 : B ≤ W1.heap.size := by omega
    refine mix_start [12] (Cls W1) (by kernel_rfl) (Cls.of ((Below.refl _ _).drew)) ?_
    refine mix_flt (by kernel_rfl) [0, 1, 2, 3, 4, 5, 6, 7, 8, 9, 10, 11] 1 _ _ (by kernel_rfl) ?_
    simp only [opsAt, List.map_cons, List.map_nil, List.toList_toArray, List.getD_cons_succ, List.getD_cons_zero]
    unfold Cls
    repeat (go_big_quiet_step (fail))
    refine wpQuiet_nil ?_
    (try rw [← Cls_def])
    refine mix_end [12] (by kernel_rfl) (fun w1 hw1 => ?_)
    simp only [opsAt, List.map_cons, List.map_nil, List.toList_toArray, List.getD_cons_succ, List.getD_cons_zero]
    rw [zig_walk n hn0' hn1']
    go_wp2_with fail
    go_at_call 29
    refine (buffer_number_any B g 49 (by decide) L1 (zigN n) w1 (HBF.out.ext hw1.below) (Nat.le_trans hB1 hw1.below.size) (by omega) (zigN_lt hn0' hn1')).mono ?_
    rintro e' w4 ⟨rfl, hb4, hbw4, hkt4⟩
    have HB4 := Lib.hid hb4
    have HBW4 := Lib.hid (Below.trans HBW.out (Below.trans (hw1.below.mono hB1) (hbw4.mono (Nat.le_refl _))))
    have HK4 := Lib.hid (HKW.out.trans ((KeptT.of_below hw1.below).trans hkt4))
    clear hb4 hkt4 hbw4
    go_wp2
    refine Calm.normal ?_
    go_end0
    exact ⟨rfl, by rw [HFL.out, HLV0.out]; have := HB4.out; rw [HL1.out, List.append_assoc] at this; exact this, HBW4.out, HK4.out⟩
  have q2 : ((k : Int) == 2) = false := by simp; omega
  by_cases k3 : k = 3
  · skip
    have hLV0 : LV = 4 :: bytesL s := by rw [HLV.out, k3, textV]; simp
    have q3 : ((k : Int) == 3) = true := by simp; omega
    clear k3
    have hbl : s.length ≤ (bytesL s).length := by rw [bytesL, List.length_append]; omega
    have hLVl : LV.length = (bytesL s).length + 1 := by rw [hLV0]; simp
    obtain ⟨L1, hL1⟩ : ∃ L1, L1 = L ++ [4] := ⟨_, rfl⟩
    have hl1 : L1.length ≤ L.length + 1 := by rw [hL1]; simp
    have HL1 := Lib.hid hL1
    have HLV0 := Lib.hid hLV0
    clear hL1 hLV0
    have hlim2 : L.length + 64 ≤ 140737488355328 := by omega
    go_wp2
    refine mixW_start [11] (ClsT W0) (by kernel_rfl) (ClsT.drew W0) (fun hCw => ?_)
    refine mixW_flt (by kernel_rfl) [0, 1, 2, 3, 4, 5] 6 _ _ hCw (by kernel_rfl) ?_
    simp only [opsAt, List.map_cons, List.map_nil, List.toList_toArray, List.getD_cons_succ, List.getD_cons_zero]
    unfold ClsT
    repeat (go_big_quiet_step (fail))
    refine wpQuiet_nil ?_
    (try rw [← ClsT_def])
    refine mixW_ch (i := 6) (fuel := 5) (by kernel_rfl) _ rfl ?_
    go_wp2_with (fail)
    refine ThenW.mk (hCw.trans (KeptA.of_below ((Below.refl _ _).alloc (Nat.le_refl _) _))) (fun hCw => ?_)
    refine mixW_chL (i := 7) (fuel := 4) (by kernel_rfl) (by kernel_rfl) ?_
    simp only [opsAt, List.map_cons, List.map_nil, List.toList_toArray, List.getD_cons_succ, List.getD_cons_zero]
    refine push_byte B rfl _ _ 45 5 rfl Tryd.underlying45 (by kernel_rfl) _ L L1 4 4 rfl HL1.out W0.heap.size ((IsBlk.new _ _ _).drew) (own_ext (own_alloc HO.out _) ((Below.refl _ _).drew)) rfl rfl (by simp; omega) (by omega) ?_
    intro v1 w3 hown3 hg3
    go_simp
    go_wp2_with (fail)
    refine ThenW.mk (hCw.trans (KeptA.grown (own_ext (own_alloc HO.out _) ((Below.refl _ _).drew)) hg3)) (fun hCw => ?_)
    refine mixW_flt (by kernel_rfl) [8, 9, 10] 1 _ _ hCw (by kernel_rfl) ?_
    simp only [opsAt, List.map_cons, List.map_nil, List.toList_toArray, List.getD_cons_succ, List.getD_cons_zero]
    unfold ClsT
    repeat (go_big_quiet_step (fail))
    refine wpQuiet_nil ?_
    (try rw [← ClsT_def])
    refine mixW_end [11] (by kernel_rfl) ?_
    simp only [opsAt, List.map_cons, List.map_nil, List.toList_toArray, List.getD_cons_succ, List.getD_cons_zero]
    have hg4 : W0.grownBy w3 (Value.slice p L.length c).ownBlock := World.grownBy.trans (World.grownBy_alloc _ _ _) (World.grownBy.trans (grownD _ _) hg3)
    have hput := Buf.put (t := 49) (by decide) hBg HBK.out HO.out hown3 hg4 hB0
    have hb3 := blk_grown HBK.out hg4 (own_ne HO.out HBK.out (by decide))
    have f0 : w3.frozen? ⟨g, 0, none⟩ = false := hb3.frozen 0
    have d0 : w3.cell? ⟨g, 0, none⟩ = some (.slice p L.length c) := hb3.cell rfl
    have hv1 : ∃ p1 c1, v1 = .slice p1 L1.length c1 := by
      rcases hown3.2 with ⟨rfl, h0⟩ | ⟨g', cap, cur, rfl, _⟩
      · exact ⟨none, 0, by rw [h0]⟩
      · exact ⟨_, _, rfl⟩
    obtain ⟨p1, j1, rfl⟩ := hv1
    have HP := Lib.hid hput
    clear hput hb3 hg3 hg4 hown3 hCw
    go_wp2
    refine Calm.normal ?_
    have hkw := (KeptT.of_below (g := g) HB0.out).trans HP.out.2.2
    have hbw := Below.trans (HB0.out.mono hBw) (HP.out.2.1.mono (Nat.le_refl _))
    have hd1 := HP.out.2.2.blk HD1.out (by decide) (by omega)
    have hd2 := HP.out.2.2.blk HD2.out (by decide) (by omega)
    have hbf := HP.out.1
    clear HP d0 f0 c1 c20 c21 c22 c23 c24 c25 c3 hn1 hn2 hn3
    go_upto_region 14 with (fail)
    generalize World.setCell w3 _ _ = W1 at hkw hbw hd1 hd2 hbf ⊢
    have c1 : W1.cell? ⟨w.heap.size, 0, none⟩ = some (.pointer (some ⟨g, 0, none⟩)) := hd1.cell rfl
    have c22 : W1.cell? ⟨w.heap.size + 1, 2, none⟩ = some (.int .i64 n) := hd2.cell rfl
    have c23 : W1.cell? ⟨w.heap.size + 1, 3, none⟩ = some (.string (bs s)) := hd2.cell rfl
    have hlt1 := hd1.lt
    have hlt2 := hd2.lt
    have HKW := Lib.hid hkw
    have HBW := Lib.hid hbw
    have HBF := Lib.hid hbf
    clear hkw hbw hbf hd1 hd2
    have hB1 : B ≤ W1.heap.size := by omega
    refine mix_start [5] (Cls W1) (by kernel_rfl) (Cls.of ((Below.refl _ _).drew)) ?_
    refine mix_flt (by kernel_rfl) [0, 1, 2, 3, 4] 1 _ _ (by kernel_rfl) ?_
    simp only [opsAt, List.map_cons, List.map_nil, List.toList_toArray, List.getD_cons_succ, List.getD_cons_zero]
    unfold Cls
    repeat (go_big_quiet_step (fail))
    refine wpQuiet_nil ?_
    (try rw [← Cls_def])
    refine mix_end [5] (by kernel_rfl) (fun w1 hw1 => ?_)
    simp only [opsAt, List.map_cons, List.map_nil, List.toList_toArray, List.getD_cons_succ, List.getD_cons_zero]
    skip
    go_wp2_with fail
    go_at_call 41
    refine (buffer_text_any B g 49 (by decide) L1 s w1 (HBF.out.ext hw1.below) (Nat.le_trans hB1 hw1.below.size) (by omega)).mono ?_
    rintro e' w4 ⟨rfl, hb4, hbw4, hkt4⟩
    have HB4 := Lib.hid hb4
    have HBW4 := Lib.hid (Below.trans HBW.out (Below.trans (hw1.below.mono hB1) (hbw4.mono (Nat.le_refl _))))
    have HK4 := Lib.hid (HKW.out.trans ((KeptT.of_below hw1.below).trans hkt4))
    clear hb4 hkt4 hbw4
    go_wp2
    refine Calm.normal ?_
    go_end0
    exact ⟨rfl, by rw [HFL.out, HLV0.out]; have := HB4.out; rw [HL1.out, List.append_assoc] at this; exact this, HBW4.out, HK4.out⟩
  have q3 : ((k : Int) == 3) = false := by simp; omega
  by_cases k4 : k = 4
  · skip
    have hLV0 : LV = 5 :: bytesL s := by rw [HLV.out, k4, textV]; simp
    have q4 : ((k : Int) == 4) = true := by simp; omega
    clear k4
    have hbl : s.length ≤ (bytesL s).length := by rw [bytesL, List.length_append]; omega
    have hLVl : LV.length = (bytesL s).length + 1 := by rw [hLV0]; simp
    obtain ⟨L1, hL1⟩ : ∃ L1, L1 = L ++ [5] := ⟨_, rfl⟩
    have hl1 : L1.length ≤ L.length + 1 := by rw [hL1]; simp
    have HL1 := Lib.hid hL1
    have HLV0 := Lib.hid hLV0
    clear hL1 hLV0
    have hlim2 : L.length + 64 ≤ 140737488355328 := by omega
    go_wp2
    refine mixW_start [11] (ClsT W0) (by kernel_rfl) (ClsT.drew W0) (fun hCw => ?_)
    refine mixW_flt (by kernel_rfl) [0, 1, 2, 3, 4, 5] 6 _ _ hCw (by kernel_rfl) ?_
    simp only [opsAt, List.map_cons, List.map_nil, List.toList_toArray, List.getD_cons_succ, List.getD_cons_zero]
    unfold ClsT
    repeat (go_big_quiet_step (fail))
    refine wpQuiet_nil ?_
    (try rw [← ClsT_def])
    refine mixW_ch (i := 6) (fuel := 5) (by kernel_rfl) _ rfl ?_
    go_wp2_with (fail)
    refine ThenW.mk (hCw.trans (KeptA.of_below ((Below.refl _ _).alloc (Nat.le_refl _) _))) (fun hCw => ?_)
    refine mixW_chL (i := 7) (fuel := 4) (by kernel_rfl) (by kernel_rfl) ?_
    simp only [opsAt, List.map_cons, List.map_nil, List.toList_toArray, List.getD_cons_succ, List.getD_cons_zero]
    refine push_byte B rfl _ _ 45 5 rfl Tryd.underlying45 (by kernel_rfl) _ L L1 5 5 rfl HL1.out W0.heap.size ((IsBlk.new _ _ _).drew) (own_ext (own_alloc HO.out _) ((Below.refl _ _).drew)) rfl rfl (by simp; omega) (by omega) ?_
    intro v1 w3 hown3 hg3
    go_simp
    go_wp2_with (fail)
    refine ThenW.mk (hCw.trans (KeptA.grown (own_ext (own_alloc HO.out _) ((Below.refl _ _).drew)) hg3)) (fun hCw => ?_)
    refine mixW_flt (by kernel_rfl) [8, 9, 10] 1 _ _ hCw (by kernel_rfl) ?_
    simp only [opsAt, List.map_cons, List.map_nil, List.toList_toArray, List.getD_cons_succ, List.getD_cons_zero]
    unfold ClsT
    repeat (go_big_quiet_step (fail))
    refine wpQuiet_nil ?_
    (try rw [← ClsT_def])
    refine mixW_end [11] (by kernel_rfl) ?_
    simp only [opsAt, List.map_cons, List.map_nil, List.toList_toArray, List.getD_cons_succ, List.getD_cons_zero]
    have hg4 : W0.grownBy w3 (Value.slice p L.length c).ownBlock := World.grownBy.trans (World.grownBy_alloc _ _ _) (World.grownBy.trans (grownD _ _) hg3)
    have hput := Buf.put (t := 49) (by decide) hBg HBK.out HO.out hown3 hg4 hB0
    have hb3 := blk_grown HBK.out hg4 (own_ne HO.out HBK.out (by decide))
    have f0 : w3.frozen? ⟨g, 0, none⟩ = false := hb3.frozen 0
    have d0 : w3.cell? ⟨g, 0, none⟩ = some (.slice p L.length c) := hb3.cell rfl
    have hv1 : ∃ p1 c1, v1 = .slice p1 L1.length c1 := by
      rcases hown3.2 with ⟨rfl, h0⟩ | ⟨g', cap, cur, rfl, _⟩
      · exact ⟨none, 0, by rw [h0]⟩
      · exact ⟨_, _, rfl⟩
    obtain ⟨p1, j1, rfl⟩ := hv1
    have HP := Lib.hid hput
    clear hput hb3 hg3 hg4 hown3 hCw
    go_wp2
    refine Calm.normal ?_
    have hkw := (KeptT.of_below (g := g) HB0.out).trans HP.out.2.2
    have hbw := Below.trans (HB0.out.mono hBw) (HP.out.2.1.mono (Nat.le_refl _))
    have hd1 := HP.out.2.2.blk HD1.out (by decide) (by omega)
    have hd2 := HP.out.2.2.blk HD2.out (by decide) (by omega)
    have hbf := HP.out.1
    clear HP d0 f0 c1 c20 c21 c22 c23 c24 c25 c3 hn1 hn2 hn3
    go_upto_region 17 with (fail)
    generalize World.setCell w3 _ _ = W1 at hkw hbw hd1 hd2 hbf ⊢
    have c1 : W1.cell? ⟨w.heap.size, 0, none⟩ = some (.pointer (some ⟨g, 0, none⟩)) := hd1.cell rfl
    have c22 : W1.cell? ⟨w.heap.size + 1, 2, none⟩ = some (.int .i64 n) := hd2.cell rfl
    have c23 : W1.cell? ⟨w.heap.size + 1, 3, none⟩ = some (.string (bs s)) := hd2.cell rfl
    have hlt1 := hd1.lt
    have hlt2 := hd2.lt
    have HKW := Lib.hid hkw
    have HBW := Lib.hid hbw
    have HBF := Lib.hid hbf
    clear hkw hbw hbf hd1 hd2
    have hB1 : B ≤ W1.heap.size := by omega
    refine mix_start [5] (Cls W1) (by kernel_rfl) (Cls.of ((Below.refl _ _).drew)) ?_
    refine mix_flt (by kernel_rfl) [0, 1, 2, 3, 4] 1 _ _ (by kernel_rfl) ?_
    simp only [opsAt, List.map_cons, List.map_nil, List.toList_toArray, List.getD_cons_succ, List.getD_cons_zero]
    unfold Cls
    repeat (go_big_quiet_step (fail))
    refine wpQuiet_nil ?_
    (try rw [← Cls_def])
    refine mix_end [5] (by kernel_rfl) (fun w1 hw1 => ?_)
    simp only [opsAt, List.map_cons, List.map_nil, List.toList_toArray, List.getD_cons_succ, List.getD_cons_zero]
    skip
    go_wp2_with fail
    go_at_call 41
    refine (buffer_text_any B g 49 (by decide) L1 s w1 (HBF.out.ext hw1.below) (Nat.le_trans hB1 hw1.below.size) (by omega)).mono ?_
    rintro e' w4 ⟨rfl, hb4, hbw4, hkt4⟩
    have HB4 := Lib.hid hb4
    have HBW4 := Lib.hid (Below.trans HBW.out (Below.trans (hw1.below.mono hB1) (hbw4.mono (Nat.le_refl _))))
    have HK4 := Lib.hid (HKW.out.trans ((KeptT.of_below hw1.below).trans hkt4))
    clear hb4 hkt4 hbw4
    go_wp2
    refine Calm.normal ?_
    go_end0
    exact ⟨rfl, by rw [HFL.out, HLV0.out]; have := HB4.out; rw [HL1.out, List.append_assoc] at this; exact this, HBW4.out, HK4.out⟩
  have q4 : ((k : Int) == 4) = false := by simp; omega
  by_cases k5 : k = 5
  · skip
    have hLV0 : LV = 6 :: (numL l.length ++ textL l) := by rw [HLV.out, k5, textV]; simp
    have q5 : ((k : Int) == 5) = true := by simp; omega
    clear k5
    have hlimP : L.length + (6 :: (numL ll ++ catN (tsL l) ll)).length + 64 ≤ 140737488355328 := by rw [HLL.out, catN_L, ← hLV0]; exact hlim
    have hfin : L ++ 6 :: (numL ll ++ catN (tsL l) ll) = FL := by rw [HLL.out, catN_L, ← hLV0, ← HFL.out]
    have HFN := Lib.hid hfin
    have HP := Lib.hid hlimP
    clear hfin hlimP hLV0
    go_wp2_with fail
    go_at_call 42
    refine (parts1_any B g L W0 (HB.out.ext HB0.out) hB0 6 6 rfl ll (by omega) (tsL l) (.pointer (some ⟨w.heap.size, 0, none⟩)) (.pointer (some ⟨w.heap.size + 1, 0, none⟩)) HP.out ?one).mono ?_
    case one =>
      intro i l' wx hi hbf hbw hkt hlx
      exact wv_list l HOL.out S B g w.heap.size (w.heap.size + 1) k b n s pl cl pf lf cf (by rw [← HLL.out]; omega) i l' wx (by rw [← HLL.out]; exact hi) hbf (Nat.le_trans hB0 hbw.size) HSS.out (HL.out.ext_to (fun _ h => h) (fun b hb hlt => (hbw.block b (HSS.out b hb)).trans (HB0.out.block b hlt))) (hkt.blk HD1.out (by decide) (by omega)) (hkt.blk (by rw [← HLL.out]; exact HD2.out) (by decide) (by omega)) hlx
    rintro e' w4 ⟨rfl, hb4, hbw4, hkt4⟩
    rw [HFN.out] at hb4
    have HB4 := Lib.hid hb4
    have HBW4 := Lib.hid (Below.trans (HB0.out.mono hBw) (hbw4.mono (Nat.le_refl _)))
    have HK4 := Lib.hid ((KeptT.of_below HB0.out).trans hkt4)
    clear hb4 hbw4 hkt4
    go_wp2
    go_end0
    exact ⟨rfl, HB4.out, HBW4.out, HK4.out⟩
  have q5 : ((k : Int) == 5) = false := by simp; omega
  by_cases k6 : k = 6
  · skip
    have hLV0 : LV = 7 :: (numL f.length ++ textF f) := by rw [HLV.out, k6, textV]; simp
    have q6 : ((k : Int) == 6) = true := by simp; omega
    clear k6
    have hlimP : L.length + (7 :: (numL lf ++ catN (tsF f) lf)).length + 64 ≤ 140737488355328 := by rw [HLF.out, catN_F, ← hLV0]; exact hlim
    have hfin : L ++ 7 :: (numL lf ++ catN (tsF f) lf) = FL := by rw [HLF.out, catN_F, ← hLV0, ← HFL.out]
    have HFN := Lib.hid hfin
    have HP := Lib.hid hlimP
    clear hfin hlimP hLV0
    go_wp2_with fail
    go_at_call 42
    refine (parts2_any B g L W0 (HB.out.ext HB0.out) hB0 7 7 rfl lf (by omega) (tsF f) (.pointer (some ⟨w.heap.size, 0, none⟩)) (.pointer (some ⟨w.heap.size + 1, 0, none⟩)) HP.out ?one).mono ?_
    case one =>
      intro i l' wx hi hbf hbw hkt hlx
      exact wv_fields f HOF.out S B g w.heap.size (w.heap.size + 1) k b n s pl ll cl pf cf (by rw [← HLF.out]; omega) i l' wx (by rw [← HLF.out]; exact hi) hbf (Nat.le_trans hB0 hbw.size) HSS.out (HF.out.ext_to (fun _ h => h) (fun b hb hlt => (hbw.block b (HSS.out b hb)).trans (HB0.out.block b hlt))) (hkt.blk HD1.out (by decide) (by omega)) (hkt.blk (by rw [← HLF.out]; exact HD2.out) (by decide) (by omega)) (by omega) (by omega) hlx
    rintro e' w4 ⟨rfl, hb4, hbw4, hkt4⟩
    rw [HFN.out] at hb4
    have HB4 := Lib.hid hb4
    have HBW4 := Lib.hid (Below.trans (HB0.out.mono hBw) (hbw4.mono (Nat.le_refl _)))
    have HK4 := Lib.hid ((KeptT.of_below HB0.out).trans hkt4)
    clear hb4 hbw4 hkt4
    go_wp2
    go_end0
    exact ⟨rfl, HB4.out, HBW4.out, HK4.out⟩
  have q6 : ((k : Int) == 6) = false := by simp; omega
  have hLV0 : FL = L := by rw [HFL.out, HLV.out, textV]; simp [k0, k1, k2, k3, k4, k5, k6]
  have HF0 := Lib.hid hLV0
  clear hLV0
  go_wp2
  go_end0
  exact ⟨rfl, by rw [HF0.out]; exact HB.out.ext HB0.out, HB0.out.mono hBw, KeptT.of_below HB0.out⟩
theorem wv_all : ∀ (m : Nat) (v : DVal), SizeOf.sizeOf v < m → WvOk v := by
  intro m
  induction m with
  | zero => intro v h; omega
  | succ m ih =>
    intro v h
    obtain ⟨k, b, n, s, l, f⟩ := v
    exact wv_step k b n s l f (fun v hv => ih v (by have := DVal.size_l (k := k) (b := b) (n := n) (s := s) (f := f) v hv; omega)) (fun p hp => ih p.2 (by have := DVal.size_f (k := k) (b := b) (n := n) (s := s) (l := l) p hp; omega))
theorem wv_any (v : DVal) : WvOk v := wv_all _ v (Nat.lt_succ_self _)
end Go.Proofs.YtghkeilgdmnnlaaDoor
