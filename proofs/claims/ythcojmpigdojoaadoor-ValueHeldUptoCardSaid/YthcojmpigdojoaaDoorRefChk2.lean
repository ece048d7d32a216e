/- codicilref02: check, Check. Condition: the value lies in memory. -/
import Derived.Test.YthcojmpigdojoaaDoorRefChk
import Derived.Deep.DeepCutAuto
set_option linter.unusedVariables false
set_option linter.unusedSimpArgs false
namespace Go.Proofs.YthcojmpigdojoaaDoor
open Go Go.RowKit Go.BigFrame
set_option maxRecDepth 100000

theorem why0_eq (d : Nat) (k : Int) (b : Bool) (n : Int) (s : List UInt8) (ll lf : Nat) : why0 d k b n s ll lf =
    if zeroB k b n s ll lf = false then 5 else if 1024 < s.length then 4 else if k = 3 ∧ Lib.validD s = false then 9 else if 64 < ll ∨ 64 < lf then 3 else if (k = 5 ∨ k = 6) ∧ 6 ≤ d then 10 else 0 := by
  unfold why0
  rw [← zeroB]
  cases zeroB k b n s ll lf
  · rfl
  · rw [if_neg (by decide)]
    rw [show unlessE true 5 = 0 from rfl, firstE, if_pos rfl]
    by_cases h1 : 1024 < s.length
    · rw [decide_eq_false (by omega), if_pos h1]; rfl
    · rw [decide_eq_true (by omega), if_neg h1, show unlessE true 4 = 0 from rfl, firstE, if_pos rfl]
      by_cases h2 : k = 3 ∧ Lib.validD s = false
      · rw [if_pos h2, h2.1, h2.2]; rfl
      · have : (!(k == 3) || Lib.validD s) = true := by
          rw [Bool.or_eq_true]
          by_cases h3 : k = 3
          · right
            cases hv : Lib.validD s
            · exact absurd ⟨h3, hv⟩ h2
            · rfl
          · left; simpa using h3
        rw [if_neg h2, this, show unlessE true 9 = 0 from rfl, firstE, if_pos rfl]
        by_cases h3 : 64 < ll ∨ 64 < lf
        · rw [decide_eq_false (by omega), if_pos h3]; rfl
        · rw [decide_eq_true (by omega), if_neg h3, show unlessE true 3 = 0 from rfl, firstE, if_pos rfl]
          by_cases h4 : (k = 5 ∨ k = 6) ∧ 6 ≤ d
          · rw [if_pos h4]
            have e1 : (k == 5 || k == 6) = true := by rcases h4.1 with rfl | rfl <;> rfl
            rw [e1, decide_eq_false (by omega)]; rfl
          · rw [if_neg h4]
            have e1 : (!(k == 5 || k == 6) || decide ((d : Int) < 6)) = true := by
              rw [Bool.or_eq_true]
              by_cases h5 : k = 5 ∨ k = 6
              · right; exact decide_eq_true (by omega)
              · left; simp; omega
            rw [e1]; rfl
theorem bytesLess_tri : ∀ (x y : List UInt8), Op.bytesLess x y = gtB y x
  | [], [] => by simp [Op.bytesLess, gtB]
  | _ :: _, [] => by simp [Op.bytesLess, gtB]
  | [], _ :: _ => by simp [Op.bytesLess, gtB]
  | a :: x, b :: y => by
    have ih := bytesLess_tri x y
    simp only [Op.bytesLess, gtB] at ih ⊢
    rw [ih]
    by_cases h : a = b
    · subst h; simp
    · by_cases h2 : a < b
      · have h3 : ¬ b < a := by simpa using UInt8.le_of_lt h2
        simp [h, h2, h3, Ne.symm h]
      · have h3 : b < a := by
          rcases UInt8.lt_or_lt_of_ne h with h4 | h4
          · exact absurd h4 h2
          · exact h4
        simp [h, h2, h3, Ne.symm h]
theorem gtB_nil {x : List UInt8} (h : x ≠ []) : gtB x [] = true := by
  cases x with
  | nil => exact absurd rfl h
  | cons a x => simp [gtB, Op.bytesLess]
theorem nameE_ne {x : List UInt8} (h : nameE x = 0) : x ≠ [] := by
  intro e
  subst e
  simp [nameE] at h
/-- The name ahead of a field's. -/
def prevN (f : List (List UInt8 × DVal)) (j : Nat) : List UInt8 := if j = 0 then [] else ((f[j - 1]?).map (·.1)).getD []
set_option maxHeartbeats 4000000 in
theorem ref_check_step (m : Nat) (ih : ∀ (v : DVal) (d : Nat) (dI : Int) (S : Nat → Prop) (cs : List Value) (w : World), SizeOf.sizeOf v < m → dI = (d : Int) → d ≤ 6 → HasVal S w v cs → Calls Tryd.prog 37 #[.agg cs.toArray, .int .i64 dI] w fun e' w' => e' = .returned (.int .i64 (checkV d v)) ∧ Below w.heap.size w w')
    (k : Nat) (b : Bool) (n : Int) (s : List UInt8) (l : List DVal) (f : List (List UInt8 × DVal)) (hm : SizeOf.sizeOf (DVal.mk k b n s l f) < m + 1) (d : Nat) (hd : d ≤ 6) (S : Nat → Prop) (pl : Option Addr) (cl : Nat) (pf : Option Addr) (cf : Nat) (w : World)
    (hk : k < 256) (hs : s.length ≤ 1099511627776) (hll : l.length ≤ 140737488351232) (hlf : f.length ≤ 140737488351232) (hl : HasL S w pl l) (hf : HasF S w pf f) :
    Calls Tryd.prog 37 #[.agg #[.int .u8 (k : Int), .bool b, .int .i64 n, .string (bs s), .slice pl l.length cl, .slice pf f.length cf], .int .i64 d] w fun e' w' => e' = .returned (.int .i64 (checkV d (.mk k b n s l f))) ∧ Below w.heap.size w w' := by
  obtain ⟨y, hy⟩ : ∃ y, y = why0 d k b n s l.length f.length := ⟨_, rfl⟩
  obtain ⟨R, hR⟩ : ∃ R, R = checkV d (.mk k b n s l f) := ⟨_, rfl⟩
  rw [← hR]
  rw [checkV, ← hy] at hR
  obtain ⟨ll, hlle⟩ : ∃ ll, ll = l.length := ⟨_, rfl⟩
  obtain ⟨lf, hlfe⟩ : ∃ lf, lf = f.length := ⟨_, rfl⟩
  rw [← hlle, ← hlfe] at hy
  rw [← hlle] at hll ⊢
  rw [← hlfe] at hlf ⊢
  have HLL := Lib.hid hlle; clear hlle
  have HLF := Lib.hid hlfe; clear hlfe
  have HR := Lib.hid hR; clear hR
  have HY := Lib.hid hy; clear hy
  have HL := Lib.hid hl; clear hl
  have HF := Lib.hid hf; clear hf
  have HM := Lib.hid hm; clear hm
  have HI := Lib.hid ih; clear ih
  have hsz := bs_size s
  go_enter Tryd.func37, Tryd.ntmps37
  go_upto_block 0 with (fail)
  generalize hW0 : World.alloc w _ = W0
  have hblk : IsBlk W0 w.heap.size #[.int .u8 (k : Int), .bool b, .int .i64 n, .string (bs s), .slice pl ll cl, .slice pf lf cf] 26 := by rw [← hW0]; exact IsBlk.new _ _ _
  have hb0 : Below w.heap.size w W0 := by rw [← hW0]; exact (Below.refl _ _).alloc (Nat.le_refl _) _
  have hlt0 : w.heap.size < W0.heap.size := hblk.lt
  clear hW0
  have HB0 := Lib.hid hb0; clear hb0
  have HBK := Lib.hid hblk; clear hblk
  generalize Value.agg _ = A0
  go_cut [] (fun wx => y = 0 ∧ Below W0.heap.size W0 wx)
  case first =>
    have hblk := HBK.out
    have c0 : W0.cell? ⟨w.heap.size, 0, none⟩ = some (.int .u8 (k : Int)) := hblk.cell rfl
    have c1 : W0.cell? ⟨w.heap.size, 1, none⟩ = some (.bool b) := hblk.cell rfl
    have c2 : W0.cell? ⟨w.heap.size, 2, none⟩ = some (.int .i64 n) := hblk.cell rfl
    have c3 : W0.cell? ⟨w.heap.size, 3, none⟩ = some (.string (bs s)) := hblk.cell rfl
    have c4 : W0.cell? ⟨w.heap.size, 4, none⟩ = some (.slice pl ll cl) := hblk.cell rfl
    have c5 : W0.cell? ⟨w.heap.size, 5, none⟩ = some (.slice pf lf cf) := hblk.cell rfl
    clear hblk
    obtain ⟨Z, hZ⟩ : ∃ Z, Z = zeroB k b n s ll lf := ⟨_, rfl⟩
    have HZ := Lib.hid hZ; clear hZ
    go_wp2_with fail
    go_at_call 64
    refine (ref_zero_any _ _ _ _ _ _ _ _ _ _ _ (by omega)).mono ?_
    rintro e' w1 ⟨he', hb⟩
    rw [← HZ.out] at he'
    subst he'
    have hblk := HBK.out.ext hb
    have HB1 := Lib.hid hb; clear hb c0 c1 c2 c3 c4 c5
    have c0 : w1.cell? ⟨w.heap.size, 0, none⟩ = some (.int .u8 (k : Int)) := hblk.cell rfl
    have c3 : w1.cell? ⟨w.heap.size, 3, none⟩ = some (.string (bs s)) := hblk.cell rfl
    have c4 : w1.cell? ⟨w.heap.size, 4, none⟩ = some (.slice pl ll cl) := hblk.cell rfl
    have c5 : w1.cell? ⟨w.heap.size, 5, none⟩ = some (.slice pf lf cf) := hblk.cell rfl
    have HBK1 := Lib.hid hblk; clear hblk
    have hyy := HY.out.trans (why0_eq d k b n s ll lf)
    rw [← HZ.out] at hyy
    have HYY := Lib.hid hyy; clear hyy
    cases Z
    · have HE : Hid (y = 5) := Lib.hid (by rw [HYY.out, if_pos rfl])
      go_wp2_with fail
      go_ret
      exact ⟨by rw [HR.out, HE.out]; rfl, Below.trans HB0.out (HB1.out.mono (by omega))⟩
    · by_cases h1 : 1024 < s.length
      · have HE : Hid (y = 4) := Lib.hid (by rw [HYY.out, if_neg (by decide), if_pos h1])
        have h1I : (1024 : Int) < (s.length : Int) := by omega
        go_wp2_with fail
        go_ret
        exact ⟨by rw [HR.out, HE.out]; rfl, Below.trans HB0.out (HB1.out.mono (by omega))⟩
      · have h1I : (s.length : Int) ≤ 1024 := by omega
        have HYZ : Hid (y = if (k : Int) = 3 ∧ Lib.validD s = false then 9 else if 64 < ll ∨ 64 < lf then 3 else if ((k : Int) = 5 ∨ (k : Int) = 6) ∧ 6 ≤ d then 10 else 0) := Lib.hid (by rw [HYY.out, if_neg (by decide), if_neg h1])
        clear h1
        by_cases h3 : k = 3
        · obtain ⟨V, hV⟩ : ∃ V, V = Lib.validD s := ⟨_, rfl⟩
          have HV := Lib.hid hV; clear hV
          have d3 : ((k : Int) == 3) = true := by simp; omega
          have d5 : ((k : Int) == 5) = false := by simp; omega
          have d6 : ((k : Int) == 6) = false := by simp; omega
          go_wp2_with fail
          go_at_call 65
          refine (ref_utf_any s _ hs).mono ?_
          rintro e' w2 ⟨he', hb⟩
          rw [← HV.out] at he'
          subst he'
          have hblk := HBK1.out.ext hb
          have HB2 := Lib.hid (below_ext HB1.out hb); clear hb c0 c3 c4 c5
          have c0 : w2.cell? ⟨w.heap.size, 0, none⟩ = some (.int .u8 (k : Int)) := hblk.cell rfl
          have c4 : w2.cell? ⟨w.heap.size, 4, none⟩ = some (.slice pl ll cl) := hblk.cell rfl
          have c5 : w2.cell? ⟨w.heap.size, 5, none⟩ = some (.slice pf lf cf) := hblk.cell rfl
          clear hblk
          cases V
          · have HE : Hid (y = 9) := Lib.hid (by rw [HYZ.out, if_pos ⟨by omega, HV.out.symm⟩])
            clear h3
            go_wp2_with fail
            go_ret
            exact ⟨by rw [HR.out, HE.out]; rfl, Below.trans HB0.out (HB2.out.mono (by omega))⟩
          · by_cases hq : 64 < ll ∨ 64 < lf
            · have HE : Hid (y = 3) := Lib.hid (by rw [HYZ.out, if_neg (fun h => by rw [← HV.out] at h; exact absurd h.2 (by decide)), if_pos hq])
              clear h3
              have hq2 : (64 < (ll : Int)) ∨ (decide (64 < (ll : Int)) = false ∧ 64 < (lf : Int)) := by
                by_cases h64 : 64 < ll
                · left; omega
                · right; exact ⟨by simp; omega, by omega⟩
              clear hq
              rcases hq2 with hq | ⟨hq1, hq2⟩
              all_goals
                go_wp2_with fail
                go_ret
                exact ⟨by rw [HR.out, HE.out]; rfl, Below.trans HB0.out (HB2.out.mono (by omega))⟩
            · have HE : Hid (y = 0) := Lib.hid (by rw [HYZ.out, if_neg (fun h => by rw [← HV.out] at h; exact absurd h.2 (by decide)), if_neg hq, if_neg (fun h => by omega)])
              have hq1 : decide (64 < (ll : Int)) = false := by simp; omega
              have hq2 : decide (64 < (lf : Int)) = false := by simp; omega
              have hq3 : (ll : Int) ≤ 64 := by omega
              have hq4 : (lf : Int) ≤ 64 := by omega
              clear h3 hq
              go_wp2_with fail
              go_meet
              exact ⟨HE.out, HB2.out⟩
        · have d3 : ((k : Int) == 3) = false := by simp; omega
          by_cases hq : 64 < ll ∨ 64 < lf
          · have HE : Hid (y = 3) := Lib.hid (by rw [HYZ.out, if_neg (fun h => by omega), if_pos hq])
            clear h3
            have hq2 : (64 < (ll : Int)) ∨ (decide (64 < (ll : Int)) = false ∧ 64 < (lf : Int)) := by
              by_cases h64 : 64 < ll
              · left; omega
              · right; exact ⟨by simp; omega, by omega⟩
            clear hq
            rcases hq2 with hq | ⟨hq1, hq2⟩
            all_goals
              go_wp2_with fail
              go_ret
              exact ⟨by rw [HR.out, HE.out]; rfl, Below.trans HB0.out (HB1.out.mono (by omega))⟩
          · have hq1 : decide (64 < (ll : Int)) = false := by simp; omega
            have hq2 : decide (64 < (lf : Int)) = false := by simp; omega
            have hq3 : (ll : Int) ≤ 64 := by omega
            have hq4 : (lf : Int) ≤ 64 := by omega
            by_cases h5 : k = 5
            · have d5 : ((k : Int) == 5) = true := by simp; omega
              by_cases hd6 : 6 ≤ d
              · have HE : Hid (y = 10) := Lib.hid (by rw [HYZ.out, if_neg (fun h => by omega), if_neg hq, if_pos ⟨Or.inl (by omega), hd6⟩])
                have hdI : (6 : Int) ≤ (d : Int) := by omega
                clear h3 hq h5
                go_wp2_with fail
                go_ret
                exact ⟨by rw [HR.out, HE.out]; rfl, Below.trans HB0.out (HB1.out.mono (by omega))⟩
              · have HE : Hid (y = 0) := Lib.hid (by rw [HYZ.out, if_neg (fun h => by omega), if_neg hq, if_neg (fun h => hd6 h.2)])
                have hdI : (d : Int) < (6 : Int) := by omega
                clear h3 hq h5
                go_wp2_with fail
                go_meet
                exact ⟨HE.out, HB1.out⟩
            · have d5 : ((k : Int) == 5) = false := by simp; omega
              by_cases h6 : k = 6
              · have d6 : ((k : Int) == 6) = true := by simp; omega
                by_cases hd6 : 6 ≤ d
                · have HE : Hid (y = 10) := Lib.hid (by rw [HYZ.out, if_neg (fun h => by omega), if_neg hq, if_pos ⟨Or.inr (by omega), hd6⟩])
                  have hdI : (6 : Int) ≤ (d : Int) := by omega
                  clear h3 hq h5 h6
                  go_wp2_with fail
                  go_ret
                  exact ⟨by rw [HR.out, HE.out]; rfl, Below.trans HB0.out (HB1.out.mono (by omega))⟩
                · have HE : Hid (y = 0) := Lib.hid (by rw [HYZ.out, if_neg (fun h => by omega), if_neg hq, if_neg (fun h => hd6 h.2)])
                  have hdI : (d : Int) < (6 : Int) := by omega
                  clear h3 hq h5 h6
                  go_wp2_with fail
                  go_meet
                  exact ⟨HE.out, HB1.out⟩
              · have d6 : ((k : Int) == 6) = false := by simp; omega
                have HE : Hid (y = 0) := Lib.hid (by rw [HYZ.out, if_neg (fun h => by omega), if_neg hq, if_neg (fun h => by omega)])
                clear h3 hq h5 h6
                go_wp2_with fail
                go_meet
                exact ⟨HE.out, HB1.out⟩
  case rest =>
    obtain ⟨hy0, hbw⟩ := hcut
    have HBW := Lib.hid hbw; clear hbw
    have hR2 : R = orE (checkL (d + 1) l) (checkF (d + 1) [] f) := by rw [HR.out, hy0]; rfl
    have hdep : 0 < ll ∨ 0 < lf → d < 6 := fun hp => why0_depth (HY.out.symm.trans hy0) hp
    have HD := Lib.hid hdep; clear hdep
    have HR2 := Lib.hid hR2; clear hR2 hy0 HR HY
    have c4 : World.cell? _ ⟨w.heap.size, 4, none⟩ = some (.slice pl ll cl) := (HBK.out.below HBW.out hlt0).cell rfl
    go_wp2
    clear c4
    go_loopw [57] (fun i wr => ∃ j : Nat, i = .int .i64 j ∧ j ≤ ll ∧ orE (checkL (d + 1) (l.drop j)) (checkF (d + 1) [] f) = R ∧ Below W0.heap.size W0 wr) (fun i _ => ll - (intOf i).toNat)
    case atStart => exact ⟨0, rfl, by omega, HR2.out.symm, HBW.out⟩
    case round =>
    clear HBW HR2
    obtain ⟨j, rfl, hj, hrel, hbw⟩ := hrel
    have HREL := Lib.hid hrel; clear hrel
    have HBW := Lib.hid hbw
    have hwr := hbw.size
    clear hbw
    by_cases hlt : j < ll
    · have hj1 : j < l.length := by rw [← HLL.out]; exact hlt
      have hdI : (d : Int) + 1 ≤ 6 := by have := HD.out (Or.inl (by omega)); omega
      obtain ⟨g, o, cs, hpl, hcells, hval⟩ := (HL.out.ext (Below.trans HB0.out (HBW.out.mono (by omega)))) j hj1
      have hdrop := checkL_drop (d := d + 1) hj1
      have hsz2 := DVal.size_l (k := k) (b := b) (n := n) (s := s) (f := f) l[j] (List.getElem_mem _)
      generalize l[j] = v at hval hdrop hsz2
      have HS2 := Lib.hid hsz2; clear hsz2
      have HDR := Lib.hid hdrop; clear hdrop
      obtain ⟨k1, b1, n1, s1, l1, f1⟩ := v
      have HV := Lib.hid hval
      obtain ⟨pl1, cl1, pf1, cf1, rfl, hbd, _, _⟩ := hasVal_mk.1 hval
      clear hval
      obtain ⟨e0, e1, e2, e3, e4, e5⟩ := hcells.six
      clear hcells hbd
      subst hpl
      obtain ⟨q, hq⟩ : ∃ q, q = checkV (d + 1) (.mk k1 b1 n1 s1 l1 f1) := ⟨_, rfl⟩
      have HQ := Lib.hid hq; clear hq
      go_wp2_with fail
      go_at_call 37
      have hba : Below wr.heap.size wr (wr.alloc (.cells #[.int .u8 (k1 : Int), .bool b1, .int .i64 n1, .string (bs s1), .slice pl1 l1.length cl1, .slice pf1 f1.length cf1] 26)) := (Below.refl _ _).alloc (Nat.le_refl _) _
      refine (HI.out (.mk k1 b1 n1 s1 l1 f1) (d + 1) _ S _ _ (by have := HS2.out; have := HM.out; omega) rfl (by omega) (HV.out.ext hba)).mono ?_
      rintro e' w1 ⟨he', hb⟩
      rw [← HQ.out] at he'
      subst he'
      have HB1 := Lib.hid (below_ext HBW.out (below_ext hba hb)); clear hb hba e0 e1 e2 e3 e4 e5
      by_cases hq0 : q = 0
      · subst hq0
        go_wp2
        go_roundw
        case rel => exact ⟨j + 1, by go_num, by omega, by rw [← HREL.out, HDR.out, ← HQ.out]; rfl, HB1.out⟩
        case measure => simp [intOf]; omega
      · have hR2 : R = q := by rw [← HREL.out, HDR.out, ← HQ.out, orE_n _ hq0, orE_n _ hq0]
        have HR2 := Lib.hid hR2; clear hR2
        have hqb : (q != 0) = true := by simpa using hq0
        clear hq0
        go_wp2_with fail
        go_ret
        exact ⟨by rw [HR2.out]; rfl, Below.trans HB0.out (HB1.out.mono (by omega))⟩
    · have hR2 : R = checkF (d + 1) [] f := by
        rw [← HREL.out, List.drop_eq_nil_of_le (by rw [← HLL.out]; omega), checkL, orE_z]
      have HR2 := Lib.hid hR2; clear hR2 HREL
      have c5 : World.cell? _ ⟨w.heap.size, 5, none⟩ = some (.slice pf lf cf) := (HBK.out.below HBW.out hlt0).cell rfl
      go_wp2
      clear c5
      go_loopw [72] (fun i wr => ∃ j : Nat, i = .int .i64 j ∧ j ≤ lf ∧ checkF (d + 1) (prevN f j) (f.drop j) = R ∧ Below W0.heap.size W0 wr) (fun i _ => lf - (intOf i).toNat)
      case atStart => exact ⟨0, rfl, by omega, HR2.out.symm, HBW.out⟩
      case round =>
      clear HBW HR2 hlt hwr hj
      obtain ⟨j2, rfl, hj2, hrel, hbw⟩ := hrel
      have HREL := Lib.hid hrel; clear hrel
      have HBW := Lib.hid hbw
      have hwr2 := hbw.size
      clear hbw
      by_cases hlt : j2 < lf
      · have hjf : j2 < f.length := by rw [← HLF.out]; exact hlt
        have hdI : (d : Int) + 1 ≤ 6 := by have := HD.out (Or.inr (by omega)); omega
        obtain ⟨g, o, cs, hpf, ⟨hxl, hcells⟩, hval⟩ := (HF.out.ext (Below.trans HB0.out (HBW.out.mono (by omega)))) j2 hjf
        have hdrop := checkF_drop (d := d + 1) (last := prevN f j2) hjf
        have hsz2 := DVal.size_f (k := k) (b := b) (n := n) (s := s) (l := l) f[j2] (List.getElem_mem _)
        have hpn : prevN f (j2 + 1) = f[j2].1 := by rw [prevN, if_neg (by omega)]; simp [hjf]
        generalize f[j2] = p at hval hdrop hsz2 hxl hcells hpn
        obtain ⟨x, v⟩ := p
        simp only [] at hval hdrop hsz2 hxl hcells hpn
        have HPN := Lib.hid hpn; clear hpn
        have HS2 := Lib.hid hsz2; clear hsz2
        have HDR := Lib.hid hdrop; clear hdrop
        obtain ⟨k1, b1, n1, s1, l1, f1⟩ := v
        have HV := Lib.hid hval
        obtain ⟨pl1, cl1, pf1, cf1, rfl, hbd, _, _⟩ := hasVal_mk.1 hval
        clear hval
        obtain ⟨e0, e1, e2, e3, e4, e5, e6⟩ := hcells.seven
        have hgr := hcells.2.1
        clear hcells hbd
        subst hpf
        obtain ⟨N, hN⟩ : ∃ N, N = nameE x := ⟨_, rfl⟩
        have HN := Lib.hid hN; clear hN
        have hxl2 : x.length ≤ 1099511627776 := by omega
        go_wp2_with fail
        go_at_call 66
        refine (ref_name_any x _ hxl2).mono ?_
        rintro e' w1 ⟨he', hb⟩
        rw [← HN.out] at he'
        subst he'
        have hba : Below wr.heap.size wr (wr.alloc (.cells #[.string (bs x), .int .u8 (k1 : Int), .bool b1, .int .i64 n1, .string (bs s1), .slice pl1 l1.length cl1, .slice pf1 f1.length cf1] 38)) := (Below.refl _ _).alloc (Nat.le_refl _) _
        have hblk2 : IsBlk w1 wr.heap.size #[.string (bs x), .int .u8 (k1 : Int), .bool b1, .int .i64 n1, .string (bs s1), .slice pl1 l1.length cl1, .slice pf1 f1.length cf1] 38 := (IsBlk.new _ _ _).ext hb
        have hb1 := below_ext hba hb
        clear hba hb e0 e1 e2 e3 e4 e5 e6
        have HB1 := Lib.hid hb1
        have HB1' := Lib.hid (below_ext HBW.out hb1)
        have hw1s := hblk2.lt
        clear hb1
        by_cases hn0 : N = 0
        · obtain ⟨Q, hQ⟩ : ∃ Q, Q = gtB x (prevN f j2) := ⟨_, rfl⟩
          have HQ := Lib.hid hQ; clear hQ
          subst hn0
          go_upto_region 22 with (fail)
          go_cut [97] (fun s97 wx => s97 = .bool (!Q) ∧ Below w1.heap.size w1 wx)
          case first =>
            have d0 : w1.cell? ⟨wr.heap.size, 0, none⟩ = some (.string (bs x)) := hblk2.cell rfl
            have c5 : w1.cell? ⟨w.heap.size, 5, none⟩ = some (.slice (some ⟨g, o, none⟩) lf cf) := (HBK.out.below HB1'.out hlt0).cell rfl
            by_cases hj0 : j2 = 0
            · obtain rfl : Q = true := by rw [HQ.out, prevN, if_pos hj0]; exact gtB_nil (nameE_ne HN.out.symm)
              have hg0 : decide (0 < j2) = false := decide_eq_false (by omega)
              have hg1 : (j2 : Int) ≤ 0 := by omega
              clear hj0
              refine mix_start [] (Cls w1) (by kernel_rfl) (Cls.of ((Below.refl _ _).drew)) ?_
              refine mix_flt (by kernel_rfl) [0, 1, 2, 3, 4, 5, 6, 7, 8, 9, 10, 11, 12, 13, 14, 15, 16, 17] 0 _ _ (by kernel_rfl) ?_
              simp only [opsAt, List.map_cons, List.map_nil, List.toList_toArray, List.getD_cons_succ, List.getD_cons_zero]
              unfold Cls
              repeat (go_big_quiet_step (fail))
              refine wpQuiet_nil ?_
              (try rw [← Cls_def])
              refine mix_end [] (by kernel_rfl) (fun w1 hw1 => ?_)
              refine wpList_nil ?_
              refine Calm.normal ?_
              go_wp2_with fail
              go_meet
              exact ⟨rfl, hw1.below⟩
            · have hjm : j2 - 1 < f.length := by omega
              obtain ⟨g3, o3, cs3, hp3, ⟨_, hc3⟩, hv3⟩ := (HF.out.ext (Below.trans HB0.out (HB1'.out.mono (by omega)))) (j2 - 1) hjm
              simp only [Option.some.injEq, Addr.mk.injEq, and_true] at hp3
              obtain ⟨rfl, rfl⟩ := hp3
              have e0 : w1.cell? ⟨g, o + (j2 - 1) * 7, none⟩ = some (.string (bs (prevN f j2))) := by
                have h0 := hc3.2.2 0 (by simp)
                rw [prevN, if_neg hj0, List.getElem?_eq_getElem hjm]
                exact h0
              have hg1 : g < w1.heap.size := hc3.2.1
              have hg0 : decide (0 < j2) = true := decide_eq_true (by omega)
              have hg2 : (0 : Int) < (j2 : Int) := by omega
              have hlw : w.heap.size < w1.heap.size := by omega
              clear hc3 hv3 hj0
              generalize prevN f j2 = px at e0 HQ
              have hcmp : Op.bytesLess (bs px).toList (bs x).toList = Q := by rw [tl_bs, tl_bs, bytesLess_tri]; exact HQ.out.symm
              refine mix_start [] (Cls w1) (by kernel_rfl) (Cls.of ((Below.refl _ _).drew)) ?_
              refine mix_flt (by kernel_rfl) [0, 1, 2, 3, 4, 5, 6, 7, 8, 9, 10, 11, 12, 13, 14, 15, 16, 17] 0 _ _ (by kernel_rfl) ?_
              simp only [opsAt, List.map_cons, List.map_nil, List.toList_toArray, List.getD_cons_succ, List.getD_cons_zero]
              unfold Cls
              repeat (go_big_quiet_step (fail))
              refine wpQuiet_nil ?_
              (try rw [← Cls_def])
              refine mix_end [] (by kernel_rfl) (fun w1 hw1 => ?_)
              refine wpList_nil ?_
              refine Calm.normal ?_
              go_wp2_with fail
              go_meet
              exact ⟨rfl, hw1.below⟩
          case rest =>
            obtain ⟨rfl, hbx⟩ := hcut
            have hblk3 := hblk2.ext hbx
            have HBX := Lib.hid (below_ext HB1'.out hbx)
            have HV3 := Lib.hid (HV.out.ext (below_ext HB1.out hbx))
            have d1 : World.cell? _ ⟨wr.heap.size, 1, none⟩ = some (.int .u8 (k1 : Int)) := hblk3.cell rfl
            have d2 : World.cell? _ ⟨wr.heap.size, 2, none⟩ = some (.bool b1) := hblk3.cell rfl
            have d3 : World.cell? _ ⟨wr.heap.size, 3, none⟩ = some (.int .i64 n1) := hblk3.cell rfl
            have d4 : World.cell? _ ⟨wr.heap.size, 4, none⟩ = some (.string (bs s1)) := hblk3.cell rfl
            have d5 : World.cell? _ ⟨wr.heap.size, 5, none⟩ = some (.slice pl1 l1.length cl1) := hblk3.cell rfl
            have d6 : World.cell? _ ⟨wr.heap.size, 6, none⟩ = some (.slice pf1 f1.length cf1) := hblk3.cell rfl
            clear hbx hblk3
            cases Q
            · have hR2 : R = 18 := by rw [← HREL.out, HDR.out, ← HN.out, ← HQ.out]; rfl
              have HR2 := Lib.hid hR2; clear hR2
              rw [show (!false) = true from rfl]
              go_wp2_with fail
              go_ret
              exact ⟨by rw [HR2.out]; rfl, Below.trans HB0.out (HBX.out.mono (by omega))⟩
            · obtain ⟨q, hq⟩ : ∃ q, q = checkV (d + 1) (.mk k1 b1 n1 s1 l1 f1) := ⟨_, rfl⟩
              have HCV := Lib.hid hq; clear hq
              rw [show (!true) = false from rfl]
              go_wp2_with fail
              go_at_call 37
              refine (HI.out (.mk k1 b1 n1 s1 l1 f1) (d + 1) _ S _ _ (by have := HS2.out; have := HM.out; omega) rfl (by omega) HV3.out).mono ?_
              rintro e' w2 ⟨he', hb⟩
              rw [← HCV.out] at he'
              subst he'
              have HB2 := Lib.hid (below_ext HBX.out hb)
              clear hb d1 d2 d3 d4 d5 d6
              by_cases hq0 : q = 0
              · have hrel2 : checkF (d + 1) (prevN f (j2 + 1)) (f.drop (j2 + 1)) = R := by
                  rw [← HREL.out, HDR.out, ← HN.out, ← HQ.out, ← HCV.out, hq0, HPN.out]; rfl
                have HREL2 := Lib.hid hrel2; clear hrel2
                subst hq0
                go_wp2
                go_roundw
                case rel => exact ⟨j2 + 1, by go_num, by omega, HREL2.out, HB2.out⟩
                case measure => simp [intOf]; omega
              · have hR2 : R = q := by rw [← HREL.out, HDR.out, ← HN.out, ← HQ.out, ← HCV.out, show orE 0 (unlessE true 18) = 0 from rfl, orE_z, orE_n _ hq0]
                have HR2 := Lib.hid hR2; clear hR2
                have hqb : (q != 0) = true := by simpa using hq0
                clear hq0
                go_wp2_with fail
                go_ret
                exact ⟨by rw [HR2.out]; rfl, Below.trans HB0.out (HB2.out.mono (by omega))⟩
        · have hR2 : R = N := by rw [← HREL.out, HDR.out, ← HN.out, orE_n _ hn0, orE_n _ hn0]
          have HR2 := Lib.hid hR2; clear hR2
          have hqb : (N != 0) = true := by simpa using hn0
          have hqe : (N == 0) = false := by simpa using hn0
          clear hn0 hblk2
          go_upto_region 22 with (fail)
          refine mix_start [] (Cls w1) (by kernel_rfl) (Cls.of ((Below.refl _ _).drew)) ?_
          refine mix_flt (by kernel_rfl) [0, 1, 2, 3, 4, 5, 6, 7, 8, 9, 10, 11, 12, 13, 14, 15, 16, 17] 0 _ _ (by kernel_rfl) ?_
          simp only [opsAt, List.map_cons, List.map_nil, List.toList_toArray, List.getD_cons_succ, List.getD_cons_zero]
          unfold Cls
          repeat (go_big_quiet_step (fail))
          refine wpQuiet_nil ?_
          (try rw [← Cls_def])
          refine mix_end [] (by kernel_rfl) (fun w1 hw1 => ?_)
          refine wpList_nil ?_
          refine Calm.normal ?_
          have HB2 := Lib.hid (below_ext HB1'.out hw1.below); clear hw1
          go_wp2_with fail
          go_ret
          exact ⟨by rw [HR2.out]; rfl, Below.trans HB0.out (HB2.out.mono (by omega))⟩
      · have hR0 : R = 0 := by rw [← HREL.out, List.drop_eq_nil_of_le (by rw [← HLF.out]; omega), checkF]
        have HR0 := Lib.hid hR0; clear hR0
        go_wp2
        go_ret
        exact ⟨by rw [HR0.out]; rfl, Below.trans HB0.out (HBW.out.mono (by omega))⟩
theorem ref_check_all : ∀ (m : Nat) (v : DVal) (d : Nat) (dI : Int) (S : Nat → Prop) (cs : List Value) (w : World), SizeOf.sizeOf v < m → dI = (d : Int) → d ≤ 6 → HasVal S w v cs →
    Calls Tryd.prog 37 #[.agg cs.toArray, .int .i64 dI] w fun e' w' => e' = .returned (.int .i64 (checkV d v)) ∧ Below w.heap.size w w' := by
  intro m
  induction m with
  | zero => intro v d dI S cs w h; omega
  | succ m ih =>
    intro v d dI S cs w h hdI hd hv
    subst hdI
    obtain ⟨k, b, n, s, l, f⟩ := v
    obtain ⟨pl, cl, pf, cf, rfl, hb, hl, hf⟩ := hasVal_mk.1 hv
    exact ref_check_step m ih k b n s l f h d hd S pl cl pf cf w hb.1 (by omega) (by omega) (by omega) hl hf
/-- The reference's word on why a value is not right. -/
theorem ref_check_any (v : DVal) (S : Nat → Prop) (cs : List Value) (w : World) (hv : HasVal S w v cs) :
    Calls Tryd.prog 19 #[.agg cs.toArray] w fun e' w' => e' = .returned (.int .i64 (checkV 0 v)) ∧ Below w.heap.size w w' := by
  have hsz := Nat.lt_succ_self (SizeOf.sizeOf v)
  have HV := Lib.hid hv
  obtain ⟨k, b, n, s, l, f⟩ := v
  obtain ⟨pl, cl, pf, cf, rfl, hb, hl, hf⟩ := hasVal_mk.1 hv
  clear hv hb hl hf
  have HS := Lib.hid hsz; clear hsz
  obtain ⟨R, hR⟩ : ∃ R, R = checkV 0 (.mk k b n s l f) := ⟨_, rfl⟩
  rw [← hR]
  have HR := Lib.hid hR; clear hR
  show Calls Tryd.prog 19 #[.agg #[.int .u8 (k : Int), .bool b, .int .i64 n, .string (bs s), .slice pl l.length cl, .slice pf f.length cf]] w _
  go_enter Tryd.func19, Tryd.ntmps19
  go_wp2_with fail
  go_at_call 37
  have hb1 : Below w.heap.size w (w.alloc (.cells #[.int .u8 (k : Int), .bool b, .int .i64 n, .string (bs s), .slice pl l.length cl, .slice pf f.length cf] 26)) := (Below.refl _ _).alloc (Nat.le_refl _) _
  refine (ref_check_all _ (.mk k b n s l f) 0 _ S _ _ HS.out rfl (by omega) (HV.out.ext hb1)).mono ?_
  rintro e' w1 ⟨he, hb⟩
  rw [← HR.out] at he
  subst he
  have HB := Lib.hid (below_ext hb1 hb); clear hb hb1
  go_wp2
  go_ret
  exact ⟨rfl, HB.out⟩
end Go.Proofs.YthcojmpigdojoaaDoor
