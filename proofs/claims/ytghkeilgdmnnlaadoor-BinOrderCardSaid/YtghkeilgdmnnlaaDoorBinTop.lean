/- bin.Write, bin.Read. Conditions: the value lies in memory; utf8's tables read as the text lays them. -/
import Derived.Test.YtghkeilgdmnnlaaDoorBinWv
import Derived.Test.YtghkeilgdmnnlaaDoorBinRv
import Derived.Test.YtghkeilgdmnnlaaDoorChk
set_option linter.unusedVariables false
set_option linter.unusedSimpArgs false
namespace Go.Proofs.YtghkeilgdmnnlaaDoor
open Go Go.RowKit Go.BigFrame
set_option maxRecDepth 100000

/-- What Write answers. -/
def wrP (v : DVal) : List UInt8 × Int := if checkV 0 v ≠ 0 then ([], checkV 0 v) else if 16384 < (textV v).length then ([], 4) else (textV v, 0)
set_option maxHeartbeats 2000000 in
theorem write_any (v : DVal) (S : Nat → Prop) (cs : List Value) (w : World) (hv : HasVal S w v cs) (hT : U8T w) (hl : (textV v).length ≤ 1099511627776) :
    Calls Tryd.prog 10 #[.agg cs.toArray] w fun e' w' => e' = .returned (.tuple #[.string (bs (wrP v).1), .int .i64 (wrP v).2]) ∧ Below w.heap.size w w' := by
  have HV := Lib.hid hv
  have HT := Lib.hid hT
  clear hT
  obtain ⟨V, hV⟩ : ∃ V, V = v := ⟨_, rfl⟩
  rw [← hV] at HV hl ⊢
  obtain ⟨T, hTx⟩ : ∃ T, T = textV V := ⟨_, rfl⟩
  obtain ⟨C, hC⟩ : ∃ C, C = checkV 0 V := ⟨_, rfl⟩
  obtain ⟨R, hR⟩ : ∃ R, R = wrP V := ⟨_, rfl⟩
  rw [← hR]
  rw [wrP, ← hTx, ← hC] at hR
  rw [← hTx] at hl
  obtain ⟨k, b, n, s, l, f⟩ := v
  obtain ⟨pl, cl, pf, cf, rfl, _, _, _⟩ := hasVal_mk.1 hv
  clear hv hV
  have HTX := Lib.hid hTx
  have HC := Lib.hid hC
  have HR := Lib.hid hR
  clear hTx hC hR
  obtain ⟨nl, hnl⟩ : ∃ nl, nl = l.length := ⟨_, rfl⟩
  obtain ⟨nf, hnf⟩ : ∃ nf, nf = f.length := ⟨_, rfl⟩
  show Calls Tryd.prog 10 #[.agg #[.int .u8 (k : Int), .bool b, .int .i64 n, .string (bs s), .slice pl l.length cl, .slice pf f.length cf]] w _
  rw [← hnl, ← hnf] at HV ⊢
  clear hnl hnf
  go_enter Tryd.func10, Tryd.ntmps10
  go_wp2_with fail
  go_at_call 20
  have hb1 : Below w.heap.size w (w.alloc (.cells #[.int .u8 (k : Int), .bool b, .int .i64 n, .string (bs s), .slice pl nl cl, .slice pf nf cf] 26)) := (Below.refl _ _).alloc (Nat.le_refl _) _
  refine (check_any V S _ _ (HV.out.ext hb1) (U8T_ext HT.out hb1)).mono ?_
  rintro e' w1 ⟨he, hb⟩
  rw [← HC.out] at he
  subst he
  have hd1 : IsBlk w1 w.heap.size #[.int .u8 (k : Int), .bool b, .int .i64 n, .string (bs s), .slice pl nl cl, .slice pf nf cf] 26 := (IsBlk.new w _ _).ext hb
  have hbw := below_ext hb1 hb
  have hlt := hd1.lt
  have c0 : w1.cell? ⟨w.heap.size, 0, none⟩ = some (.int .u8 (k : Int)) := hd1.cell rfl
  have c1 : w1.cell? ⟨w.heap.size, 1, none⟩ = some (.bool b) := hd1.cell rfl
  have c2 : w1.cell? ⟨w.heap.size, 2, none⟩ = some (.int .i64 n) := hd1.cell rfl
  have c3 : w1.cell? ⟨w.heap.size, 3, none⟩ = some (.string (bs s)) := hd1.cell rfl
  have c4 : w1.cell? ⟨w.heap.size, 4, none⟩ = some (.slice pl nl cl) := hd1.cell rfl
  have c5 : w1.cell? ⟨w.heap.size, 5, none⟩ = some (.slice pf nf cf) := hd1.cell rfl
  have HB := Lib.hid hbw
  clear hb hb1 hbw hd1
  by_cases hc : C = 0
  · have hR2 : R = if 16384 < T.length then ([], 4) else (T, 0) := by rw [HR.out, if_neg (by simpa using hc)]
    have HR2 := Lib.hid hR2
    clear hR2 HR HC
    subst hc
    go_wp2_with fail
    go_at_call 24
    have hbx : Below w.heap.size w (w1.alloc (.cells #[.slice none 0 0] 49)) := below_ext HB.out ((Below.refl _ _).alloc (Nat.le_refl _) _)
    have hvx := relV.lt (HV.out.ext HB.out)
    have hvy := relV.kept hvx (fun _ h => h) (fun b hb _ => ((Below.refl w1.heap.size w1).alloc (Nat.le_refl _) (.cells #[.slice none 0 0] 49)).block b hb.2)
    refine (wv_any V (fun b => S b ∧ b < w1.heap.size) _ w1.heap.size w1.heap.size [] _ ⟨Nat.le_refl _, _, IsBlk.new _ _ _, ⟨rfl, Or.inl ⟨rfl, rfl⟩⟩⟩ (by simp) (fun b hb => hb.2) hvy (by simp only [List.length_nil]; rw [← HTX.out]; omega)).mono ?_
    rintro e' w2 ⟨rfl, hbuf, hbw, hkt⟩
    rw [List.nil_append, ← HTX.out] at hbuf
    obtain ⟨p, c, hblk, hown⟩ := hbuf.sl
    have c9 : w2.cell? ⟨w1.heap.size, 0, none⟩ = some (.slice p T.length c) := hblk.cell rfl
    have hcv := run_string_own (P := Tryd.prog) (w := w2) 45 5 9 Tryd.underlying45 Tryd.underlying5 Tryd.underlying9 hown
    have HB2 := Lib.hid (below_ext HB.out (Below.trans ((Below.refl w1.heap.size w1).alloc (Nat.le_refl _) _) (hbw.mono (Nat.le_refl _))))
    have hlt2 := hblk.lt
    clear hbuf hbw hkt hblk hown hvx hvy hbx c0 c1 c2 c3 c4 c5
    by_cases h16 : 16384 < T.length
    · have hI : (16384 : Int) < (T.length : Int) := by omega
      have hr := HR2.out
      rw [if_pos h16] at hr
      clear HR2 h16
      subst hr
      go_wp2
      go_ret2
      exact ⟨rfl, HB2.out⟩
    · have hI : (T.length : Int) ≤ 16384 := by omega
      have hr := HR2.out
      rw [if_neg h16] at hr
      clear HR2 h16
      subst hr
      go_wp2
      go_ret2
      exact ⟨rfl, HB2.out⟩
  · have hR2 : R = ([], C) := by rw [HR.out, if_pos (by simpa using hc)]
    clear HR
    subst hR2
    go_wp2
    go_ret2
    exact ⟨rfl, HB.out⟩
/-- What Read answers. -/
def rdV (s : List UInt8) : DVal × Int := if 16384 < s.length then (.zero, 4) else if (valueP 7 (s, false)).2.2 = true ∨ (valueP 7 (s, false)).2.1 ≠ [] ∨ checkV 0 (valueP 7 (s, false)).1 ≠ 0 then (.zero, 11) else ((valueP 7 (s, false)).1, 0)
def RdPost (w : World) (r : DVal × Int) (e' : Ending) (w' : World) : Prop := ∃ cs, e' = .returned (.tuple #[.agg cs.toArray, .int .i64 r.2]) ∧ HasVal (fun b => w.heap.size ≤ b) w' r.1 cs ∧ Below w.heap.size w w'
theorem below6 {B b : Nat} {w w' : World} (h : Below B w w') (hb : B ≤ b) (c0 c1 c2 c3 c4 c5 : Value) :
    Below B w ((((((w'.setCell ⟨b, 0, none⟩ c0).setCell ⟨b, 1, none⟩ c1).setCell ⟨b, 2, none⟩ c2).setCell ⟨b, 3, none⟩ c3).setCell ⟨b, 4, none⟩ c4).setCell ⟨b, 5, none⟩ c5) :=
  below_set (below_set (below_set (below_set (below_set (below_set h hb) hb) hb) hb) hb) hb
theorem rd_fin {tmps : Array Value} {w w2 : World} {h : Nat} {V : DVal} {y : Int} {a0 a1 a2 a3 a4 a5 c0 c1 c2 c3 c4 c5 : Value} (hp : tmps.getD 2 undef = .pointer (some ⟨h, 0, none⟩)) (hy : tmps.getD 3 undef = .int .i64 y) (hz : IsBlk w2 h #[a0, a1, a2, a3, a4, a5] 26) (hb : Below w.heap.size w w2) (hh : w.heap.size ≤ h)
    (hv : ∀ w', (∀ b, b ≠ h → w'.heap[b]? = w2.heap[b]?) → HasVal (fun b => w.heap.size ≤ b) w' V [c0, c1, c2, c3, c4, c5]) :
    bodyPost Tryd.prog Tryd.f12 (RdPost w (V, y)) Exit.ret { tmps := tmps, defers := [] }
      ((((((w2.setCell ⟨h, 0, none⟩ c0).setCell ⟨h, 1, none⟩ c1).setCell ⟨h, 2, none⟩ c2).setCell ⟨h, 3, none⟩ c3).setCell ⟨h, 4, none⟩ c4).setCell ⟨h, 5, none⟩ c5) := by
  have hz6 := set6 hz c0 c1 c2 c3 c4 c5
  refine bodyPost_ret (v := .tuple #[.agg #[c0, c1, c2, c3, c4, c5], .int .i64 y]) (results_ct (p := 2) (u := 3) (ty := 26) Tryd.results12 hp hz6 Tryd.underlying26 rfl (by kernel_rfl) hy) rfl ⟨[c0, c1, c2, c3, c4, c5], rfl, hv _ (fun b hb => ?_), below6 hb hh c0 c1 c2 c3 c4 c5⟩
  have e : ∀ (W : World) (o : Nat) (u : Value), (W.setCell ⟨h, o, none⟩ u).heap[b]? = W.heap[b]? := fun W o u => Below.heap_setCell _ _ _ _ hb
  rw [e, e, e, e, e, e]
theorem zero_ret {tmps : Array Value} {w w2 : World} {y : Int} (hp : tmps.getD 2 undef = .pointer (some ⟨w.heap.size, 0, none⟩)) (hy : tmps.getD 3 undef = .int .i64 y) (hz : IsBlk w2 w.heap.size #[.int .u8 0, .bool false, .int .i64 0, .string (bs []), .slice none 0 0, .slice none 0 0] 26) (hb : Below w.heap.size w w2) :
    bodyPost Tryd.prog Tryd.f12 (RdPost w (.zero, y)) Exit.ret { tmps := tmps, defers := [] } w2 :=
  bodyPost_ret (v := .tuple #[.agg #[.int .u8 0, .bool false, .int .i64 0, .string (bs []), .slice none 0 0, .slice none 0 0], .int .i64 y]) (results_ct (p := 2) (u := 3) (ty := 26) Tryd.results12 hp hz Tryd.underlying26 rfl (by kernel_rfl) hy) rfl ⟨_, rfl, zero_has _ w2, hb⟩
set_option maxHeartbeats 4000000 in
theorem read_any (s : List UInt8) (w : World) (hT : U8T w) (hs : s.length ≤ 281474976710656) : Calls Tryd.prog 12 #[.string (bs s)] w (RdPost w (rdV s)) := by
  have hsz := bs_size s
  obtain ⟨R, hR⟩ : ∃ R, R = rdV s := ⟨_, rfl⟩
  rw [← hR]
  rw [rdV] at hR
  have HT := Lib.hid hT
  clear hT
  by_cases h16 : 16384 < s.length
  · have hI : (16384 : Int) < (s.length : Int) := by omega
    rw [if_pos h16] at hR
    clear h16
    subst hR
    go_enter Tryd.func12, Tryd.ntmps12
    go_wp2
    exact zero_ret rfl rfl (IsBlk.new _ _ _) ((Below.refl _ _).alloc (Nat.le_refl _) _)
  · have hI : (s.length : Int) ≤ 16384 := by omega
    rw [if_neg h16] at hR
    have HR := Lib.hid hR
    clear hR h16
    obtain ⟨V, st, hvp⟩ : ∃ V st, valueP 7 (s, false) = (V, st) := ⟨_, _, rfl⟩
    have hR := HR.out
    rw [hvp] at hR
    simp only [] at hR
    have HR := Lib.hid hR
    have HVP := Lib.hid hvp
    clear hR hvp
    go_enter Tryd.func12, Tryd.ntmps12
    go_wp2_with fail
    go_at_call 27
    have hbA : Below w.heap.size w ((w.alloc (.cells #[.int .u8 0, .bool false, .int .i64 0, .string ⟨#[]⟩, .slice none 0 0, .slice none 0 0] 26)).alloc (.cells #[.string (bs s), .bool false] 56)) := ((Below.refl _ _).alloc (Nat.le_refl _) _).alloc (by simp) _
    have hzA : IsBlk ((w.alloc (.cells #[.int .u8 0, .bool false, .int .i64 0, .string ⟨#[]⟩, .slice none 0 0, .slice none 0 0] 26)).alloc (.cells #[.string (bs s), .bool false] 56)) w.heap.size #[.int .u8 0, .bool false, .int .i64 0, .string (bs []), .slice none 0 0, .slice none 0 0] 26 := (IsBlk.new _ _ _).alloc _
    have hrA : RdBlk ((w.alloc (.cells #[.int .u8 0, .bool false, .int .i64 0, .string ⟨#[]⟩, .slice none 0 0, .slice none 0 0] 26)).alloc (.cells #[.string (bs s), .bool false] 56)) (w.heap.size + 1) 56 (s, false) := rdBlk_mk (IsBlk.new_at (by simp))
    have hsA : ((w.alloc (.cells #[.int .u8 0, .bool false, .int .i64 0, .string ⟨#[]⟩, .slice none 0 0, .slice none 0 0] 26)).alloc (.cells #[.string (bs s), .bool false] 56)).heap.size = w.heap.size + 2 := by simp
    refine (rv_any 7 (Nat.le_refl _) (s, false) 0 w.heap.size (w.heap.size + 1) _ (by decide) (by omega) hrA (show s.length ≤ 16384 by omega)).mono ?_
    rintro e' w3 ⟨cs, rfl, hval, hrb, hrd⟩
    rw [HVP.out] at hval hrb
    rw [hsA] at hval
    simp only [] at hval hrb
    have hz3 := hrd.blk hzA (by omega)
    have hb3 := Below.trans hbA (hrd.1.mono (Nat.le_refl _))
    have hs3 := hrd.2.1
    rw [hsA] at hs3
    obtain ⟨k1, b1, n1, s1, l1, f1⟩ := V
    have HV3 := Lib.hid hval
    obtain ⟨pl1, cl1, pf1, cf1, rfl, _, _, _⟩ := hasVal_mk.1 hval
    clear hval hrd hbA hzA hrA hsA
    obtain ⟨nl, hnl⟩ : ∃ nl, nl = l1.length := ⟨_, rfl⟩
    obtain ⟨nf, hnf⟩ : ∃ nf, nf = f1.length := ⟨_, rfl⟩
    rw [← hnl, ← hnf] at HV3 ⊢
    clear hnl hnf
    have hrb3 : IsBlk w3 (w.heap.size + 1) #[.string (bs st.1), .bool st.2] 56 := hrb
    have HZ3 := Lib.hid hz3
    have HB3 := Lib.hid hb3
    have HRB := Lib.hid hrb3
    clear hz3 hb3 hrb3 hrb
    go_upto_region 5 with (fail)
    generalize hW4 : World.alloc w3 _ = W4
    have hb4 : Below w3.heap.size w3 W4 := by rw [← hW4]; exact (Below.refl _ _).alloc (Nat.le_refl _) _
    have hd4 : IsBlk W4 w3.heap.size #[.int .u8 (k1 : Int), .bool b1, .int .i64 n1, .string (bs s1), .slice pl1 nl cl1, .slice pf1 nf cf1] 26 := by rw [← hW4]; exact IsBlk.new _ _ _
    clear hW4
    have hz4 := HZ3.out.ext hb4
    have hr4 := HRB.out.ext hb4
    have hv4 := HV3.out.ext hb4
    have hbw := below_ext HB3.out hb4
    have c1 : W4.cell? ⟨w.heap.size + 1, 1, none⟩ = some (.bool st.2) := hr4.cell rfl
    have c0 : W4.cell? ⟨w.heap.size + 1, 0, none⟩ = some (.string (bs st.1)) := hr4.cell rfl
    have d0 : W4.cell? ⟨w3.heap.size, 0, none⟩ = some (.int .u8 (k1 : Int)) := hd4.cell rfl
    have d1 : W4.cell? ⟨w3.heap.size, 1, none⟩ = some (.bool b1) := hd4.cell rfl
    have d2 : W4.cell? ⟨w3.heap.size, 2, none⟩ = some (.int .i64 n1) := hd4.cell rfl
    have d3 : W4.cell? ⟨w3.heap.size, 3, none⟩ = some (.string (bs s1)) := hd4.cell rfl
    have d4 : W4.cell? ⟨w3.heap.size, 4, none⟩ = some (.slice pl1 nl cl1) := hd4.cell rfl
    have d5 : W4.cell? ⟨w3.heap.size, 5, none⟩ = some (.slice pf1 nf cf1) := hd4.cell rfl
    obtain ⟨st1, st2⟩ := st
    simp only [] at c0 c1 HR
    have HZ4 := Lib.hid hz4
    have HD4 := Lib.hid hd4
    have HV4 := Lib.hid hv4
    have HBW := Lib.hid hbw
    have HT4 := Lib.hid (U8T_ext HT.out hbw)
    clear hz4 hd4 hv4 hbw hb4 hr4 HZ3 HB3 HRB HV3
    obtain ⟨C, hC⟩ : ∃ C, C = checkV 0 (.mk k1 b1 n1 s1 l1 f1) := ⟨_, rfl⟩
    have hR := HR.out
    rw [← hC] at hR
    have HR := Lib.hid hR
    have HC := Lib.hid hC
    clear hR hC
    have fz : ∀ i, W4.frozen? ⟨w.heap.size, i, none⟩ = false := fun i => HZ4.out.frozen i
    have f0 := fz 0
    have f1' := fz 1
    have f2 := fz 2
    have f3 := fz 3
    have f4 := fz 4
    have f5 := fz 5
    have z0 : W4.cell? ⟨w.heap.size, 0, none⟩ = some (.int .u8 0) := HZ4.out.cell rfl
    have z1 : W4.cell? ⟨w.heap.size, 1, none⟩ = some (.bool false) := HZ4.out.cell rfl
    have z2 : W4.cell? ⟨w.heap.size, 2, none⟩ = some (.int .i64 0) := HZ4.out.cell rfl
    have z3 : W4.cell? ⟨w.heap.size, 3, none⟩ = some (.string (bs [])) := HZ4.out.cell rfl
    have z4 : W4.cell? ⟨w.heap.size, 4, none⟩ = some (.slice none 0 0) := HZ4.out.cell rfl
    have z5 : W4.cell? ⟨w.heap.size, 5, none⟩ = some (.slice none 0 0) := HZ4.out.cell rfl
    clear fz
    cases st2
    · by_cases hl0 : st1 = []
      · subst hl0
        have he : (bs []).toList.isEmpty = true := by rw [tl_bs]; rfl
        go_wp2_with fail
        go_at_call 20
        refine (check_any (.mk k1 b1 n1 s1 l1 f1) _ _ _ HV4.out HT4.out).mono ?_
        rintro e' w5 ⟨he5, hb5⟩
        rw [← HC.out] at he5
        subst he5
        have hz5 := HZ4.out.ext hb5
        have hd5 := HD4.out.ext hb5
        have hv5 := HV4.out.ext hb5
        have hbw5 := below_ext HBW.out hb5
        clear c0 c1 d0 d1 d2 d3 d4 d5 z0 z1 z2 z3 z4 z5 f0 f1' f2 f3 f4 f5
        have d0 : w5.cell? ⟨w3.heap.size, 0, none⟩ = some (.int .u8 (k1 : Int)) := hd5.cell rfl
        have d1 : w5.cell? ⟨w3.heap.size, 1, none⟩ = some (.bool b1) := hd5.cell rfl
        have d2 : w5.cell? ⟨w3.heap.size, 2, none⟩ = some (.int .i64 n1) := hd5.cell rfl
        have d3 : w5.cell? ⟨w3.heap.size, 3, none⟩ = some (.string (bs s1)) := hd5.cell rfl
        have d4 : w5.cell? ⟨w3.heap.size, 4, none⟩ = some (.slice pl1 nl cl1) := hd5.cell rfl
        have d5 : w5.cell? ⟨w3.heap.size, 5, none⟩ = some (.slice pf1 nf cf1) := hd5.cell rfl
        have HZ4 := Lib.hid hz5
        have HV5 := Lib.hid hv5
        have HBW5 := Lib.hid hbw5
        clear hz5 hd5 hv5 hbw5 hb5
        have fz : ∀ i, w5.frozen? ⟨w.heap.size, i, none⟩ = false := fun i => HZ4.out.frozen i
        have f0 := fz 0
        have f1' := fz 1
        have f2 := fz 2
        have f3 := fz 3
        have f4 := fz 4
        have f5 := fz 5
        have z0 : w5.cell? ⟨w.heap.size, 0, none⟩ = some (.int .u8 0) := HZ4.out.cell rfl
        have z1 : w5.cell? ⟨w.heap.size, 1, none⟩ = some (.bool false) := HZ4.out.cell rfl
        have z2 : w5.cell? ⟨w.heap.size, 2, none⟩ = some (.int .i64 0) := HZ4.out.cell rfl
        have z3 : w5.cell? ⟨w.heap.size, 3, none⟩ = some (.string (bs [])) := HZ4.out.cell rfl
        have z4 : w5.cell? ⟨w.heap.size, 4, none⟩ = some (.slice none 0 0) := HZ4.out.cell rfl
        have z5 : w5.cell? ⟨w.heap.size, 5, none⟩ = some (.slice none 0 0) := HZ4.out.cell rfl
        clear fz
        by_cases hc : C = 0
        · have hr : R = (.mk k1 b1 n1 s1 l1 f1, 0) := by rw [HR.out, if_neg (by simp [hc])]
          clear HR he
          subst hr
          subst hc
          go_wp2
          exact rd_fin rfl rfl HZ4.out HBW5.out (Nat.le_refl _) (fun w' hw' => HV5.out.ext_to (fun b hb => by omega) (fun b hb _ => hw' b (by omega)))
        · have hr : R = (.zero, 11) := by rw [HR.out, if_pos (Or.inr (Or.inr hc))]
          clear HR he
          subst hr
          go_wp2
          exact rd_fin rfl rfl HZ4.out HBW5.out (Nat.le_refl _) (fun w' _ => zero_has _ w')
      · have he : (bs st1).toList.isEmpty = false := by
          rw [tl_bs]
          cases st1 with
          | nil => exact absurd rfl hl0
          | cons a l => rfl
        have he2 : ((bs st1).toList == ([] : List UInt8)) = false := by rw [tl_bs]; simpa using hl0
        have hr : R = (.zero, 11) := by rw [HR.out, if_pos (Or.inr (Or.inl hl0))]
        clear HR hl0
        subst hr
        go_wp2
        exact rd_fin rfl rfl HZ4.out HBW.out (Nat.le_refl _) (fun w' _ => zero_has _ w')
    · have hr : R = (.zero, 11) := by rw [HR.out, if_pos (Or.inl rfl)]
      clear HR
      subst hr
      go_wp2
      exact rd_fin rfl rfl HZ4.out HBW.out (Nat.le_refl _) (fun w' _ => zero_has _ w')
end Go.Proofs.YtghkeilgdmnnlaaDoor
