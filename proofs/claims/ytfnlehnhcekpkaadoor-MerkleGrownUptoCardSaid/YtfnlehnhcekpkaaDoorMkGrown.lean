/- MerkleGrown: each growth of a tree shows it from the root of its first texts; a digest more, or fewer, shows nothing. Conditions: at most 2^40 texts, none longer than 2^40 bytes; the tables read as the texts lay them. -/
import Derived.Test.YtfnlehnhcekpkaaDoorMkGp
import Derived.Test.YtfnlehnhcekpkaaDoorMkMade
import Derived.Test.YtfnlehnhcekpkaaDoorMkTrees
import Derived.Test.YtfnlehnhcekpkaaDoorPushArg
import Derived.Test.YtfnlehnhcekpkaaDoorMixN
set_option linter.unusedVariables false
set_option linter.unusedSimpArgs false
namespace Go.Proofs.YtfnlehnhcekpkaaDoor
open Go Go.RowKit Go.BigFrame
set_option maxRecDepth 100000

theorem hasS_lt {S : Nat → Prop} {w : World} {p : Option Addr} {l : List (List UInt8)} (h : HasS S w p l) : HasS (fun x => S x ∧ x < w.heap.size) w p l := fun i hi => by
  obtain ⟨g, o, h1, h2, h3, h4⟩ := h i hi
  exact ⟨g, o, h1, ⟨h2, h3⟩, h3, h4⟩
/-- A row without its first text: where it lies with no room behind it stays, else it begins a cell on. -/
theorem tail_more {S : Nat → Prop} {w : World} {g o c : Nat} {x : List UInt8} {l : List (List UInt8)} (hc : (x :: l).length ≤ c) (h : HasS S w (some ⟨g, o, none⟩) (x :: l)) : HasS (fun _ => True) w (some ⟨g, o + 1, none⟩) l := by
  intro i hi
  have hi2 : i + 1 < (x :: l).length := by rw [List.length_cons]; omega
  obtain ⟨g', o', h1, _, h3, h4⟩ := h (i + 1) hi2
  rw [Option.some.injEq, Addr.mk.injEq] at h1
  obtain ⟨rfl, rfl, _⟩ := h1
  refine ⟨g, o + 1, rfl, trivial, h3, ?_⟩
  rw [show o + 1 + i = o + (i + 1) by omega, h4]
  rfl
section
variable {P : Program} {ops : Array Oper} {T : List Nat} {C : World → Prop} {Q : Exit → Act → World → Prop}
theorem mixB_listed {fuel : Nat} {listed listed' : Array Bool} {a : Act} {w : World} (h : listed = listed') (k : mixB P ops T C Q fuel listed' a w) : mixB P ops T C Q fuel listed a w := by
  rw [h]
  exact k
/-- What follows once the six operations are done, in whatever order. -/
theorem mixB_via {fuel : Nat} {listed : Array Bool} {a : Act} {w : World} {v68 v70 : Value} (fuelJ : Nat) (listedJ : Array Bool) (J : Value → World → Prop)
    (h : ∀ s74 s76 s78 s79 W, J s79 W → mixB P ops T C Q fuelJ listedJ ((((((a.put (some 68) v68).put (some 70) v70).put (some 74) s74).put (some 76) s76).put (some 78) s78).put (some 79) s79) W)
    (k : (∀ s74 s76 s78 s79 W, J s79 W → mixB P ops T C Q fuelJ listedJ ((((((a.put (some 68) v68).put (some 70) v70).put (some 74) s74).put (some 76) s76).put (some 78) s78).put (some 79) s79) W) → mixB P ops T C Q fuel listed a w) : mixB P ops T C Q fuel listed a w := k h
end
set_option maxHeartbeats 32000000 in
theorem grown_any (l : List (List UInt8)) (i : Int) (oth : List UInt8) (S : Nat → Prop) (p : Option Addr) (cap : Nat) (w : World) (hK : Ks w) (hT : TzT w) (htg : 1 < w.heap.size) (hcap : l.length ≤ cap) (hs : HasS S w p l) (hll : l.length ≤ 1099511627776) (hts : ∀ s ∈ l, s.length ≤ 1099511627776) (hol : oth.length ≤ 1099511627776) :
    Calls Tryd.prog 9 #[.slice p l.length cap, .int .i64 i, .string (bs oth)] w fun e' w' => e' = .returned (.bool true) ∧ Below w.heap.size w w' := by
  have hkl := hK.lt
  have HL := Lib.hid (lives_any w hK hT htg)
  have HK := Lib.hid hK
  have HTS := Lib.hid hts
  have HARG := Lib.hid hs
  clear hK hT hs hts
  go_enter Tryd.func9, Tryd.ntmps9
  go_wp2_with fail
  go_at_call 15
  refine HL.out.mono ?_
  rintro e' w1 ⟨rfl, hb⟩
  have HB1 := Lib.hid hb
  have hsz1 := hb.size
  clear hb HL
  by_cases hmany : 1024 < l.length
  · go_wp2_with fail
    go_at_call 17
    refine (new_many p l.length cap w1 hmany).mono ?_
    rintro e' w2 ⟨rfl, rfl⟩
    go_wp2
    go_ret
    exact ⟨rfl, HB1.out⟩
  have hfew : l.length ≤ 1024 := by omega
  go_wp2_with fail
  go_at_call 17
  refine (new_any l S p cap w1 (HARG.out.ext HB1.out) hfew).mono ?_
  rintro e' w2 ⟨gA, tpA, tcA, rfl, htr, hb⟩
  obtain ⟨_, _, _, _, hblk⟩ := htr.block
  have hgA2 := hblk.lt
  have hgeA0 : w1.heap.size ≤ gA := by
    rcases htr with ⟨b, L, h, _⟩ | ⟨h, _⟩
    · exact h
    · exact h
  have hgeA : w.heap.size ≤ gA := by omega
  have HB2 := Lib.hid (HB1.out.trans (hb.mono hsz1))
  have hsz2 := HB2.out.size
  have HTA2 : Hid (TreeIn (fun x => w.heap.size ≤ x) l gA tpA tcA w2) := Lib.hid (htr.ext_to (fun x hx _ => by omega) (fun _ _ _ => rfl))
  clear htr hb hblk hgeA0 hmany
  have hgt := growth_tot (fun x => w.heap.size ≤ x) l gA tpA tcA i w2 (HK.out.ext HB2.out) (by omega) (by omega) HTS.out HTA2.out (fun x hx => by omega)
  obtain ⟨GV, hGV⟩ : ∃ GV, GV = growV l i := ⟨_, rfl⟩
  have hgl : GV.length ≤ 1024 := by have := growV_length (l := l) (by omega) i; rw [hGV]; omega
  rw [← hGV] at hgt
  by_cases hout : i < 0 ∨ (l.length : Int) < i
  · have hGE : growE l i = 2 := by unfold growE; rw [if_pos hout]
    have hG0 : GV = [] := by rw [hGV]; unfold growV; rw [if_pos (by omega)]
    rw [hGE, hG0] at hgt
    have HGT := Lib.hid hgt
    clear hgt hGE hG0 hGV hgl
    go_wp2_with fail
    go_at_call 25
    refine HGT.out.mono ?_
    rintro e' w3 ⟨v, rfl, hown, hk, hb, htr⟩
    obtain ⟨pG, cG, rfl, _, _, _⟩ := hasS_ownN (l := []) hown
    have HB3 := Lib.hid (HB2.out.trans (hb.mono hgeA))
    clear hown hk hb htr
    rcases hout with h | h
    · have hd : decide (i < 0) = true := decide_eq_true h
      go_wp2
      go_ret
      exact ⟨rfl, HB3.out⟩
    · have hd : decide ((l.length : Int) < i) = true := decide_eq_true h
      have hd0 : decide (i < 0) = false := decide_eq_false (by omega)
      go_wp2
      go_ret
      exact ⟨rfl, HB3.out⟩
  obtain ⟨m, rfl⟩ : ∃ m : Nat, i = (m : Int) := ⟨i.toNat, by omega⟩
  have hm : m ≤ l.length := by omega
  have hmI : (m : Int) ≤ (l.length : Int) := by omega
  have hmc : (m : Int) ≤ (cap : Int) := by omega
  have hGE : growE l (m : Int) = 0 := by unfold growE; rw [if_neg hout]
  rw [hGE] at hgt
  obtain ⟨k1, k2, k3⟩ := grown_all hfew hm
  rw [← hGV] at k1 k2 k3
  have h32 : ∀ x ∈ GV, x.length ≤ 1099511627776 := by
    have hd : dig32 GV = true := by
      cases hd : dig32 GV with
      | true => rfl
      | false => rw [grewB_bad hd] at k1; cases k1
    intro x hx
    unfold dig32 at hd
    rw [List.all_eq_true] at hd
    have := hd x hx
    simp at this
    omega
  have HGT := Lib.hid hgt
  have HGR1 := Lib.hid k1
  have HGR2 := Lib.hid (k2 oth)
  have HGR3 := Lib.hid k3
  have HG1 := Lib.hid h32
  have HG12 : Hid (∀ x ∈ GV ++ [oth], x.length ≤ 1099511627776) := Lib.hid (fun x hx => by
    rcases List.mem_append.1 hx with h | h
    · exact h32 x h
    · rw [List.mem_singleton.1 h]; exact hol)
  have htk : (l.take m).length = m := by rw [List.length_take]; omega
  have HTS2 : Hid (∀ s ∈ l.take m, s.length ≤ 1099511627776) := Lib.hid (fun s hs => HTS.out s (List.mem_of_mem_take hs))
  have HNEWU := Lib.hid (fun w' (hb : Below w.heap.size w w') => new_any (l.take m) _ p cap w' ((HARG.out.ext hb).take m) (by omega))
  rw [htk] at HNEWU
  clear hgt hGE hGV k1 k2 k3 h32 hout
  go_wp2_with fail
  go_at_call 25
  refine HGT.out.mono ?_
  rintro e' w3 ⟨v, rfl, hown, hk, hb, htr⟩
  obtain ⟨pGa, cGa, rfl, hcapGa, hnoneGa, hrow⟩ := hasS_ownN (l := GV) hown
  have HB3 := Lib.hid (HB2.out.trans (hb.mono hgeA))
  have hsz3 := HB3.out.size
  have hgA3 : gA < w3.heap.size := by have := hk.1; omega
  have HTA3 := Lib.hid htr
  have HRG3 := Lib.hid (hasS_lt hrow)
  clear hown hk hb htr hrow HTA2 HGT
  have HAB : ∀ x : Nat, w3.heap.size ≤ x → x ≠ gA := fun x hx => by omega
  go_wp2_with fail
  go_at_call 17
  refine (HNEWU.out w3 HB3.out).mono ?_
  rintro e' w4 ⟨gU, tpU, tcU, rfl, htr, hb⟩
  obtain ⟨_, _, _, _, hblk⟩ := htr.block
  have hgU4 := hblk.lt
  have hgeU0 : w3.heap.size ≤ gU := by
    rcases htr with ⟨b, L, h, _⟩ | ⟨h, _⟩
    · exact h
    · exact h
  have hgeU : w.heap.size ≤ gU := by omega
  have HB4 := Lib.hid (HB3.out.trans (hb.mono hsz3))
  have hsz4 := HB4.out.size
  have hgA4 : gA < w4.heap.size := by have := hb.size; omega
  have HTA4 : Hid (TreeIn (fun x => w.heap.size ≤ x ∧ x ≠ gU) l gA tpA tcA w4) := Lib.hid (HTA3.out.ext_to (S' := fun x => w.heap.size ≤ x ∧ x ≠ gU) (fun x hx hlt => ⟨hx, by omega⟩) (fun x hx hlt => hb.block x hlt))
  have HTU4 : Hid (TreeIn (fun x => w.heap.size ≤ x ∧ x ≠ gA) (l.take m) gU tpU tcU w4) := Lib.hid (htr.ext_to (fun x hx _ => ⟨by omega, by omega⟩) (fun _ _ _ => rfl))
  have HRG4 : Hid (HasS (fun x => x ≠ gA ∧ x ≠ gU) w4 pGa GV) := Lib.hid ((HRG3.out.ext hb).ext_to (fun x hx => ⟨by have := hx.1; omega, by have := hx.2; omega⟩) (fun _ _ _ => rfl))
  clear htr hb hblk HTA3 HRG3 HAB HNEWU
  go_wp2_with fail
  go_at_call 18
  refine (root_any (fun x => w.heap.size ≤ x ∧ x ≠ gA) (l.take m) gU tpU tcU w4 (HK.out.ext HB4.out) (by omega) (by omega) HTS2.out HTU4.out (fun x hx => ⟨by omega, by omega⟩)).mono ?_
  rintro e' w5 ⟨rfl, b, hk, hb, L', hm1⟩
  have HB5 := Lib.hid (HB4.out.trans (hb.mono hgeU))
  have hsz5 := HB5.out.size
  have hgA5 : gA < w5.heap.size := by have := hk.1; omega
  have hgU5 : gU < w5.heap.size := by have := hk.1; omega
  have HTU5 := Lib.hid (show TreeM (fun x => w.heap.size ≤ x ∧ x ≠ gA) (l.take m) gU tpU tcU w5 from ⟨b, L', hm1⟩)
  have HTA5 := Lib.hid (HTA4.out.ext_to (S' := fun x => w.heap.size ≤ x ∧ x ≠ gU) (fun x hx _ => hx) (fun x hx hlt => hk.2 x hlt hx.2))
  have HRG5 := Lib.hid (HRG4.out.ext_to (fun _ h => h) (fun x hx hlt => hk.2 x hlt hx.2))
  clear hk hb hm1 HTU4 HTA4 HRG4
  go_wp2_with fail
  go_at_call 18
  refine (root_any (fun x => w.heap.size ≤ x ∧ x ≠ gU) l gA tpA tcA w5 (HK.out.ext HB5.out) (by omega) (by omega) HTS.out HTA5.out (fun x hx => ⟨by omega, by omega⟩)).mono ?_
  rintro e' w6 ⟨rfl, b, hk, hb, L', hm1⟩
  have HB6 := Lib.hid (HB5.out.trans (hb.mono hgeA))
  have hsz6 := HB6.out.size
  have HTA6 := Lib.hid (show TreeM (fun x => w.heap.size ≤ x ∧ x ≠ gU) l gA tpA tcA w6 from ⟨b, L', hm1⟩)
  have HTU6 := Lib.hid (HTU5.out.ext_to (S' := fun x => w.heap.size ≤ x ∧ x ≠ gA) (fun x hx _ => hx) (fun x hx hlt => hk.2 x hlt hx.2))
  have HRG6 := Lib.hid (HRG5.out.ext_to (fun _ h => h) (fun x hx hlt => hk.2 x hlt hx.1))
  clear hk hb hm1 HTU5 HTA5 HRG5
  go_wp2_with fail
  go_at_call 28
  refine (grew_any (rootL (l.take m)) (rootL l) (m : Int) (l.length : Int) GV _ pGa cGa w6 (HK.out.ext HB6.out) (by rw [rootL_len]; omega) (by rw [rootL_len]; omega) HRG6.out hcapGa (by omega) HG1.out).mono ?_
  rintro e' w7 ⟨rfl, hb⟩
  rw [HGR1.out]
  have HB7 := Lib.hid (HB6.out.trans (hb.mono hsz6))
  have hsz7 := HB7.out.size
  have HTA7 := Lib.hid (HTA6.out.ext hb)
  have HTU7 := Lib.hid (HTU6.out.ext hb)
  have HRGa7 := Lib.hid (HRG6.out.ext hb)
  clear hb HTA6 HTU6 HRG6 HGR1 HTS HTS2 hmI hmc
  clear hgA2 hgA3 hgA4 hgA5 hgU4 hgU5 hgeU0 hsz1 hsz2 hsz3 hsz4 hsz5 hsz6 HB1 HB2 HB3 HB4 HB5 HB6 HARG
  obtain ⟨R12, hR12⟩ : ∃ R, R = GV ++ [oth] := ⟨_, rfl⟩
  rw [← hR12] at HGR2 HG12
  have hRl : R12.length ≤ 1025 := by rw [hR12, List.length_append, List.length_singleton]; omega
  have HR := Lib.hid hR12
  clear hR12 htk
  go_upto_region 12 with (fail)
  refine mixB_start [] (Cls w) (by kernel_rfl) (Cls.of HB7.out.drew) (fun hCw => ?_)
  obtain ⟨w8, hw8⟩ : ∃ W, W = { w7 with drawn := w7.drawn + 1 } := ⟨_, rfl⟩
  rw [← hw8] at hCw ⊢
  have HX8 : Hid (Below w7.heap.size w7 w8) := Lib.hid (by rw [hw8]; exact (Below.refl _ _).drew)
  have HB8 := Lib.hid (HB7.out.trans (HX8.out.mono hsz7))
  clear hw8
  refine mixB_flt (by kernel_rfl) [0, 2, 4, 5, 6, 8, 10] 27 _ _ hCw (by kernel_rfl) ?_
  simp only [opsAt, List.map_cons, List.map_nil, List.toList_toArray, List.getD_cons_succ, List.getD_cons_zero]
  unfold Cls
  repeat (go_big_quiet_step (fail))
  refine wpQuiet_nil ?_
  (try rw [← Cls_def])
  refine mixB_via (v68 := .string (bs (rootL (l.take m)))) (v70 := .string (bs (rootL l))) 21 (((((((listAll [0, 2, 4, 5, 6, 8, 10] (Array.replicate 34 false)).setIfInBounds 1 true).setIfInBounds 3 true).setIfInBounds 7 true).setIfInBounds 9 true).setIfInBounds 11 true).setIfInBounds 12 true) (fun s79 W => ∃ p12 c12, s79 = .slice p12 R12.length c12 ∧ R12.length ≤ c12 ∧ HasS (fun x => w7.heap.size ≤ x) W p12 R12 ∧ Below w7.heap.size w7 W) (fun s74 s76 s78 s79 w14 hJ => ?_) (fun JOIN => ?_)
  · -- behind the join
    obtain ⟨p12, c12, rfl, hcap12, hr12, hx⟩ := hJ
    have HR12 := Lib.hid hr12
    have HX14 := Lib.hid hx
    have HB14 := Lib.hid (HB7.out.trans (HX14.out.mono hsz7))
    have hCw := Cls.of HB14.out
    clear hr12 hx HX8 HB8
    simp only [Act.put, List.setIfInBounds_toArray, List.set_cons_succ, List.set_cons_zero]
    by_cases hnil : GV = []
    · subst hnil
      clear HGR3
      refine mixB_ch (i := 13) (fuel := 20) (by kernel_rfl) (by kernel_rfl) ?_
      simp only [opsAt, List.map_cons, List.map_nil, List.toList_toArray, List.getD_cons_succ, List.getD_cons_zero]
      go_wp2_with (go_at_call 28; refine (grew_any (rootL (l.take m)) (rootL l) (m : Int) (l.length : Int) R12 _ p12 c12 w14 (HK.out.ext HB14.out) (by rw [rootL_len]; omega) (by rw [rootL_len]; omega) HR12.out hcap12 (by omega) HG12.out).mono ?_; rintro e' w15 ⟨rfl, hb⟩; rw [HGR2.out])
      have HX15 := Lib.hid (HX14.out.trans (hb.mono HX14.out.size))
      have HB15 := Lib.hid (HB7.out.trans (HX15.out.mono hsz7))
      clear hb
      refine ThenB.mk (Cls.of HB15.out) (fun hCw => ?_)
      refine mixB_flt (by kernel_rfl) [14, 15, 16, 17, 18, 19, 20, 22, 24, 25, 26, 27, 28] 7 _ _ hCw (by kernel_rfl) ?_
      simp only [opsAt, List.map_cons, List.map_nil, List.toList_toArray, List.getD_cons_succ, List.getD_cons_zero]
      unfold Cls
      repeat (go_big_quiet_step (fail))
      refine wpQuiet_nil ?_
      (try rw [← Cls_def])
      refine mixB_ch (i := 21) (fuel := 6) (by kernel_rfl) (by kernel_rfl) ?_
      simp only [opsAt, List.map_cons, List.map_nil, List.toList_toArray, List.getD_cons_succ, List.getD_cons_zero]
      go_wp2_with fail
      refine ThenB.mk (Cls.of HB15.out) (fun hCw => ?_)
      refine mixB_ch (i := 23) (fuel := 5) (by kernel_rfl) (by kernel_rfl) ?_
      simp only [opsAt, List.map_cons, List.map_nil, List.toList_toArray, List.getD_cons_succ, List.getD_cons_zero]
      go_wp2_with fail
      refine ThenB.mk (Cls.of HB15.out) (fun hCw => ?_)
      refine mixB_ch (i := 29) (fuel := 4) (by kernel_rfl) (by kernel_rfl) ?_
      simp only [opsAt, List.map_cons, List.map_nil, List.toList_toArray, List.getD_cons_succ, List.getD_cons_zero]
      go_wp2_with fail
      refine ThenB.mk (Cls.of HB15.out) (fun hCw => ?_)
      refine mixB_flt (by kernel_rfl) [30, 31, 32, 33] 0 _ _ hCw (by kernel_rfl) ?_
      simp only [opsAt, List.map_cons, List.map_nil, List.toList_toArray, List.getD_cons_succ, List.getD_cons_zero]
      unfold Cls
      repeat (go_big_quiet_step (fail))
      refine wpQuiet_nil ?_
      (try rw [← Cls_def])
      refine mixB_end [] (by kernel_rfl) ?_
      refine wpList_nil ?_
      refine Calm.normal ?_
      clear hCw
      go_wp2
      go_ret
      exact ⟨rfl, HB15.out⟩
    obtain ⟨x0, G0, rfl⟩ : ∃ x0 G0, GV = x0 :: G0 := by
      cases GV with
      | nil => exact absurd rfl hnil
      | cons x0 G0 => exact ⟨x0, G0, rfl⟩
    have HGR4 := Lib.hid (HGR3.out hnil)
    rw [List.tail_cons] at HGR4
    obtain ⟨gG, oG, hpG, _, _, _⟩ := HRGa7.out 0 (by simp)
    subst hpG
    have hc1 : 1 ≤ cGa := by rw [List.length_cons] at hcapGa; omega
    have hc1I : (1 : Int) ≤ (cGa : Int) := by omega
    have hgl2 : G0.length + 1 ≤ 1024 := hgl
    clear HGR3 hnil
    by_cases hone : cGa = 1
    · subst hone
      obtain rfl : G0 = [] := List.eq_nil_of_length_eq_zero (by rw [List.length_cons] at hcapGa; omega)
      refine mixB_ch (i := 13) (fuel := 20) (by kernel_rfl) (by kernel_rfl) ?_
      simp only [opsAt, List.map_cons, List.map_nil, List.toList_toArray, List.getD_cons_succ, List.getD_cons_zero]
      go_wp2_with (go_at_call 28; refine (grew_any (rootL (l.take m)) (rootL l) (m : Int) (l.length : Int) R12 _ p12 c12 w14 (HK.out.ext HB14.out) (by rw [rootL_len]; omega) (by rw [rootL_len]; omega) HR12.out hcap12 (by omega) HG12.out).mono ?_; rintro e' w15 ⟨rfl, hb⟩; rw [HGR2.out])
      have HX15 := Lib.hid (HX14.out.trans (hb.mono HX14.out.size))
      have HB15 := Lib.hid (HB7.out.trans (HX15.out.mono hsz7))
      clear hb
      refine ThenB.mk (Cls.of HB15.out) (fun hCw => ?_)
      refine mixB_flt (by kernel_rfl) [14, 15, 16, 17, 18, 19, 20, 22, 24, 25, 26, 27, 28] 7 _ _ hCw (by kernel_rfl) ?_
      simp only [opsAt, List.map_cons, List.map_nil, List.toList_toArray, List.getD_cons_succ, List.getD_cons_zero]
      unfold Cls
      repeat (go_big_quiet_step (fail))
      refine wpQuiet_nil ?_
      (try rw [← Cls_def])
      refine mixB_ch (i := 21) (fuel := 6) (by kernel_rfl) (by kernel_rfl) ?_
      simp only [opsAt, List.map_cons, List.map_nil, List.toList_toArray, List.getD_cons_succ, List.getD_cons_zero]
      go_wp2_with (go_at_call 18; refine (root_made _ (l.take m) gU tpU tcU w15 (HTU7.out.ext HX15.out)).mono ?_; rintro e' w16 ⟨rfl, hb⟩)
      have HX16 := Lib.hid (HX15.out.trans (hb.mono HX15.out.size))
      have HB16 := Lib.hid (HB7.out.trans (HX16.out.mono hsz7))
      clear hb
      refine ThenB.mk (Cls.of HB16.out) (fun hCw => ?_)
      refine mixB_ch (i := 23) (fuel := 5) (by kernel_rfl) (by kernel_rfl) ?_
      simp only [opsAt, List.map_cons, List.map_nil, List.toList_toArray, List.getD_cons_succ, List.getD_cons_zero]
      go_wp2_with (go_at_call 18; refine (root_made _ l gA tpA tcA w16 (HTA7.out.ext HX16.out)).mono ?_; rintro e' w17 ⟨rfl, hb⟩)
      have HX17 := Lib.hid (HX16.out.trans (hb.mono HX16.out.size))
      have HB17 := Lib.hid (HB7.out.trans (HX17.out.mono hsz7))
      clear hb
      refine ThenB.mk (Cls.of HB17.out) (fun hCw => ?_)
      refine mixB_ch (i := 29) (fuel := 4) (by kernel_rfl) (by kernel_rfl) ?_
      simp only [opsAt, List.map_cons, List.map_nil, List.toList_toArray, List.getD_cons_succ, List.getD_cons_zero]
      go_wp2_with (go_at_call 28; refine (grew_any (rootL (l.take m)) (rootL l) (m : Int) (l.length : Int) ([] : List (List UInt8)) (fun _ => True) (some ⟨gG, oG, none⟩) (0) w17 (HK.out.ext HB17.out) (by rw [rootL_len]; omega) (by rw [rootL_len]; omega) (fun i hi => by simp at hi) (by simp) (by simp) (fun x hx => HG1.out x (List.mem_cons_of_mem _ hx))).mono ?_; rintro e' w18 ⟨rfl, hb⟩; rw [HGR4.out])
      have HX18 := Lib.hid (HX17.out.trans (hb.mono HX17.out.size))
      have HB18 := Lib.hid (HB7.out.trans (HX18.out.mono hsz7))
      clear hb
      refine ThenB.mk (Cls.of HB18.out) (fun hCw => ?_)
      refine mixB_flt (by kernel_rfl) [30, 31, 32, 33] 0 _ _ hCw (by kernel_rfl) ?_
      simp only [opsAt, List.map_cons, List.map_nil, List.toList_toArray, List.getD_cons_succ, List.getD_cons_zero]
      unfold Cls
      repeat (go_big_quiet_step (fail))
      refine wpQuiet_nil ?_
      (try rw [← Cls_def])
      refine mixB_end [] (by kernel_rfl) ?_
      refine wpList_nil ?_
      refine Calm.normal ?_
      clear hCw
      go_wp2
      go_ret
      exact ⟨rfl, HB18.out⟩
    · have hone2 : ¬ cGa - 1 = 0 := by omega
      have hl0 : ((G0.length : Int) + 1 == 0) = false := by rw [beq_eq_false_iff_ne]; omega
      refine mixB_ch (i := 13) (fuel := 20) (by kernel_rfl) (by kernel_rfl) ?_
      simp only [opsAt, List.map_cons, List.map_nil, List.toList_toArray, List.getD_cons_succ, List.getD_cons_zero]
      go_wp2_with (go_at_call 28; refine (grew_any (rootL (l.take m)) (rootL l) (m : Int) (l.length : Int) R12 _ p12 c12 w14 (HK.out.ext HB14.out) (by rw [rootL_len]; omega) (by rw [rootL_len]; omega) HR12.out hcap12 (by omega) HG12.out).mono ?_; rintro e' w15 ⟨rfl, hb⟩; rw [HGR2.out])
      have HX15 := Lib.hid (HX14.out.trans (hb.mono HX14.out.size))
      have HB15 := Lib.hid (HB7.out.trans (HX15.out.mono hsz7))
      clear hb
      refine ThenB.mk (Cls.of HB15.out) (fun hCw => ?_)
      refine mixB_flt (by kernel_rfl) [14, 15, 16, 17, 18, 19, 20, 22, 24, 25, 26, 27, 28] 7 _ _ hCw (by kernel_rfl) ?_
      simp only [opsAt, List.map_cons, List.map_nil, List.toList_toArray, List.getD_cons_succ, List.getD_cons_zero]
      unfold Cls
      repeat (go_big_quiet_step (fail))
      refine wpQuiet_nil ?_
      (try rw [← Cls_def])
      refine mixB_ch (i := 21) (fuel := 6) (by kernel_rfl) (by kernel_rfl) ?_
      simp only [opsAt, List.map_cons, List.map_nil, List.toList_toArray, List.getD_cons_succ, List.getD_cons_zero]
      go_wp2_with (go_at_call 18; refine (root_made _ (l.take m) gU tpU tcU w15 (HTU7.out.ext HX15.out)).mono ?_; rintro e' w16 ⟨rfl, hb⟩)
      have HX16 := Lib.hid (HX15.out.trans (hb.mono HX15.out.size))
      have HB16 := Lib.hid (HB7.out.trans (HX16.out.mono hsz7))
      clear hb
      refine ThenB.mk (Cls.of HB16.out) (fun hCw => ?_)
      refine mixB_ch (i := 23) (fuel := 5) (by kernel_rfl) (by kernel_rfl) ?_
      simp only [opsAt, List.map_cons, List.map_nil, List.toList_toArray, List.getD_cons_succ, List.getD_cons_zero]
      go_wp2_with (go_at_call 18; refine (root_made _ l gA tpA tcA w16 (HTA7.out.ext HX16.out)).mono ?_; rintro e' w17 ⟨rfl, hb⟩)
      have HX17 := Lib.hid (HX16.out.trans (hb.mono HX16.out.size))
      have HB17 := Lib.hid (HB7.out.trans (HX17.out.mono hsz7))
      clear hb
      refine ThenB.mk (Cls.of HB17.out) (fun hCw => ?_)
      refine mixB_ch (i := 29) (fuel := 4) (by kernel_rfl) (by kernel_rfl) ?_
      simp only [opsAt, List.map_cons, List.map_nil, List.toList_toArray, List.getD_cons_succ, List.getD_cons_zero]
      go_wp2_with (go_at_call 28; refine (grew_any (rootL (l.take m)) (rootL l) (m : Int) (l.length : Int) G0 (fun _ => True) (some ⟨gG, oG + 1, none⟩) (cGa - 1) w17 (HK.out.ext HB17.out) (by rw [rootL_len]; omega) (by rw [rootL_len]; omega) (tail_more hcapGa (HRGa7.out.ext HX17.out)) (by rw [List.length_cons] at hcapGa; omega) (by omega) (fun x hx => HG1.out x (List.mem_cons_of_mem _ hx))).mono ?_; rintro e' w18 ⟨rfl, hb⟩; rw [HGR4.out])
      have HX18 := Lib.hid (HX17.out.trans (hb.mono HX17.out.size))
      have HB18 := Lib.hid (HB7.out.trans (HX18.out.mono hsz7))
      clear hb
      refine ThenB.mk (Cls.of HB18.out) (fun hCw => ?_)
      refine mixB_flt (by kernel_rfl) [30, 31, 32, 33] 0 _ _ hCw (by kernel_rfl) ?_
      simp only [opsAt, List.map_cons, List.map_nil, List.toList_toArray, List.getD_cons_succ, List.getD_cons_zero]
      unfold Cls
      repeat (go_big_quiet_step (fail))
      refine wpQuiet_nil ?_
      (try rw [← Cls_def])
      refine mixB_end [] (by kernel_rfl) ?_
      refine wpList_nil ?_
      refine Calm.normal ?_
      clear hCw
      go_wp2
      go_ret
      exact ⟨rfl, HB18.out⟩
  · -- the orders
    simp only [Act.put, List.setIfInBounds_toArray, List.set_cons_succ, List.set_cons_zero] at JOIN
    refine mixB_br3 (i := 1) (j := 7) (k := 11) (fuel := 26) (by kernel_rfl) (by kernel_rfl) ?_ ?_ ?_
    · simp only [opsAt, List.map_cons, List.map_nil, List.toList_toArray, List.getD_cons_succ, List.getD_cons_zero]
      go_wp2_with (go_at_call 18; refine (root_made _ (l.take m) gU tpU tcU w8 (HTU7.out.ext HX8.out)).mono ?_; rintro e' w9 ⟨rfl, hb⟩)
      have HX9 := Lib.hid (HX8.out.trans (hb.mono HX8.out.size))
      have HB9 := Lib.hid (HB7.out.trans (HX9.out.mono hsz7))
      clear hb
      refine ThenB.mk (Cls.of HB9.out) (fun hCw => ?_)
      refine mixB_br3 (i := 3) (j := 7) (k := 11) (fuel := 25) (by kernel_rfl) (by kernel_rfl) ?_ ?_ ?_
      · simp only [opsAt, List.map_cons, List.map_nil, List.toList_toArray, List.getD_cons_succ, List.getD_cons_zero]
        go_wp2_with (go_at_call 18; refine (root_made _ l gA tpA tcA w9 (HTA7.out.ext HX9.out)).mono ?_; rintro e' w10 ⟨rfl, hb⟩)
        have HX10 := Lib.hid (HX9.out.trans (hb.mono HX9.out.size))
        have HB10 := Lib.hid (HB7.out.trans (HX10.out.mono hsz7))
        clear hb
        refine ThenB.mk (Cls.of HB10.out) (fun hCw => ?_)
        refine mixB_br (i := 7) (j := 11) (fuel := 24) (by kernel_rfl) (by kernel_rfl) ?_ ?_
        · simp only [opsAt, List.map_cons, List.map_nil, List.toList_toArray, List.getD_cons_succ, List.getD_cons_zero]
          go_wp2_with fail
          obtain ⟨w11, hw11⟩ : ∃ W, W = w10.alloc (.cells #[] 9) := ⟨_, rfl⟩
          rw [← hw11]
          have hb : Below w10.heap.size w10 w11 := by rw [hw11]; exact (Below.refl _ _).alloc (Nat.le_refl _) _
          have hnew : IsBlk w11 w10.heap.size #[] 9 := by rw [hw11]; exact IsBlk.new _ _ _
          clear hw11
          have hge7 : w7.heap.size ≤ w10.heap.size := HX10.out.size
          have HX11 := Lib.hid (HX10.out.trans (hb.mono HX10.out.size))
          have HB11 := Lib.hid (HB7.out.trans (HX11.out.mono hsz7))
          clear hb
          have HK7_11 := Lib.hid hnew
          refine ThenB.mk (Cls.of HB11.out) (fun hCw => ?_)
          refine mixB_br (i := 9) (j := 11) (fuel := 23) (by kernel_rfl) (by kernel_rfl) ?_ ?_
          · simp only [opsAt, List.map_cons, List.map_nil, List.toList_toArray, List.getD_cons_succ, List.getD_cons_zero]
            have HO0 := Lib.hid (own_lit (cs := []) HK7_11.out hge7 rfl (by decide))
            go_wp2_with (at_builtin; refine push_texts w7.heap.size rfl _ _ rfl (.slice (some ⟨w10.heap.size, 0, none⟩) 0 0) [] HO0.out _ _ _ GV (HRGa7.out.ext HX11.out) hnoneGa rfl rfl (HX11.out.size) (by simp; omega) ?_; intro v9 w12 hown hg)
            have HX12 := Lib.hid (below_grown HX11.out hg HX11.out.size (fun z hz => (HO0.out.lt z hz).1))
            have HB12 := Lib.hid (HB7.out.trans (HX12.out.mono hsz7))
            have HO9_12 : Hid (w12.ownsRow w7.heap.size 9 1 v9 GV.length (strsV GV)) := Lib.hid (by simpa [strsV] using hown)
            clear hown hg
            refine ThenB.mk (Cls.of HB12.out) (fun hCw => ?_)
            refine mixB_ch (i := 11) (fuel := 22) (by kernel_rfl) (by kernel_rfl) ?_
            simp only [opsAt, List.map_cons, List.map_nil, List.toList_toArray, List.getD_cons_succ, List.getD_cons_zero]
            go_wp2_with fail
            obtain ⟨w13, hw13⟩ : ∃ W, W = w12.alloc (.cells #[.string (bs oth)] 9) := ⟨_, rfl⟩
            rw [← hw13]
            have hb : Below w12.heap.size w12 w13 := by rw [hw13]; exact (Below.refl _ _).alloc (Nat.le_refl _) _
            have hnew : IsBlk w13 w12.heap.size #[.string (bs oth)] 9 := by rw [hw13]; exact IsBlk.new _ _ _
            clear hw13
            have hge11 : w7.heap.size ≤ w12.heap.size := HX12.out.size
            have HX13 := Lib.hid (HX12.out.trans (hb.mono HX12.out.size))
            have HB13 := Lib.hid (HB7.out.trans (HX13.out.mono hsz7))
            have HO9_13 := Lib.hid (own_ext HO9_12.out hb)
            clear hb
            have HK11_13 := Lib.hid hnew
            refine ThenB.mk (Cls.of HB13.out) (fun hCw => ?_)
            refine mixB_ch (i := 12) (fuel := 21) (by kernel_rfl) (by kernel_rfl) ?_
            simp only [opsAt, List.map_cons, List.map_nil, List.toList_toArray, List.getD_cons_succ, List.getD_cons_zero]
            go_wp2_with (at_builtin; refine push_at w7.heap.size rfl _ _ 22 9 (.string (bs [])) 16 rfl Tryd.underlying22 (by kernel_rfl) rfl (by decide) _ GV.length _ HO9_13.out (w12.heap.size) 1 [.string (bs oth)] HK11_13.out rfl rfl rfl (by simp [Value.oneCell']) (HX13.out.size) (by omega) ?_; intro v12 w14 hown hg)
            have HX14 := Lib.hid (below_grown HX13.out hg HX13.out.size (fun z hz => (HO9_13.out.lt z hz).1))
            have HB14 := Lib.hid (HB7.out.trans (HX14.out.mono hsz7))
            have hown2 : w14.ownsRow w7.heap.size 9 1 v12 R12.length (strsV R12) := by rw [HR.out]; simpa [strsV] using hown
            obtain ⟨p12, c12, rfl, hcap12, _, hr12⟩ := hasS_ownN (l := R12) hown2
            have HR12 := Lib.hid hr12
            clear hown hown2 hg hr12
            refine ThenB.mk (Cls.of HB14.out) (fun hCw => ?_)
            exact mixB_listed (by kernel_rfl) (JOIN _ _ _ _ w14 ⟨p12, c12, rfl, hcap12, HR12.out, HX14.out⟩)
          · simp only [opsAt, List.map_cons, List.map_nil, List.toList_toArray, List.getD_cons_succ, List.getD_cons_zero]
            go_wp2_with fail
            obtain ⟨w12, hw12⟩ : ∃ W, W = w11.alloc (.cells #[.string (bs oth)] 9) := ⟨_, rfl⟩
            rw [← hw12]
            have hb : Below w11.heap.size w11 w12 := by rw [hw12]; exact (Below.refl _ _).alloc (Nat.le_refl _) _
            have hnew : IsBlk w12 w11.heap.size #[.string (bs oth)] 9 := by rw [hw12]; exact IsBlk.new _ _ _
            clear hw12
            have hge11 : w7.heap.size ≤ w11.heap.size := HX11.out.size
            have hne : w10.heap.size ≠ w11.heap.size := by have := HK7_11.out.lt; omega
            have HX12 := Lib.hid (HX11.out.trans (hb.mono HX11.out.size))
            have HB12 := Lib.hid (HB7.out.trans (HX12.out.mono hsz7))
            have HK7_12 := Lib.hid (HK7_11.out.ext hb)
            clear hb
            have HK11_12 := Lib.hid hnew
            refine ThenB.mk (Cls.of HB12.out) (fun hCw => ?_)
            refine mixB_ch (i := 9) (fuel := 22) (by kernel_rfl) (by kernel_rfl) ?_
            simp only [opsAt, List.map_cons, List.map_nil, List.toList_toArray, List.getD_cons_succ, List.getD_cons_zero]
            have HO0 := Lib.hid (own_lit (cs := []) HK7_12.out hge7 rfl (by decide))
            go_wp2_with (at_builtin; refine push_texts w7.heap.size rfl _ _ rfl (.slice (some ⟨w10.heap.size, 0, none⟩) 0 0) [] HO0.out _ _ _ GV (HRGa7.out.ext HX12.out) hnoneGa rfl rfl (HX12.out.size) (by simp; omega) ?_; intro v9 w13 hown hg)
            have HX13 := Lib.hid (below_grown HX12.out hg HX12.out.size (fun z hz => (HO0.out.lt z hz).1))
            have HB13 := Lib.hid (HB7.out.trans (HX13.out.mono hsz7))
            have HO9_13 : Hid (w13.ownsRow w7.heap.size 9 1 v9 GV.length (strsV GV)) := Lib.hid (by simpa [strsV] using hown)
            have HK11_13 := Lib.hid (blk_grown HK11_12.out hg (fun h => hne (Option.some.inj h)))
            clear hown hg
            refine ThenB.mk (Cls.of HB13.out) (fun hCw => ?_)
            refine mixB_ch (i := 12) (fuel := 21) (by kernel_rfl) (by kernel_rfl) ?_
            simp only [opsAt, List.map_cons, List.map_nil, List.toList_toArray, List.getD_cons_succ, List.getD_cons_zero]
            go_wp2_with (at_builtin; refine push_at w7.heap.size rfl _ _ 22 9 (.string (bs [])) 16 rfl Tryd.underlying22 (by kernel_rfl) rfl (by decide) _ GV.length _ HO9_13.out (w11.heap.size) 1 [.string (bs oth)] HK11_13.out rfl rfl rfl (by simp [Value.oneCell']) (HX13.out.size) (by omega) ?_; intro v12 w14 hown hg)
            have HX14 := Lib.hid (below_grown HX13.out hg HX13.out.size (fun z hz => (HO9_13.out.lt z hz).1))
            have HB14 := Lib.hid (HB7.out.trans (HX14.out.mono hsz7))
            have hown2 : w14.ownsRow w7.heap.size 9 1 v12 R12.length (strsV R12) := by rw [HR.out]; simpa [strsV] using hown
            obtain ⟨p12, c12, rfl, hcap12, _, hr12⟩ := hasS_ownN (l := R12) hown2
            have HR12 := Lib.hid hr12
            clear hown hown2 hg hr12
            refine ThenB.mk (Cls.of HB14.out) (fun hCw => ?_)
            exact mixB_listed (by kernel_rfl) (JOIN _ _ _ _ w14 ⟨p12, c12, rfl, hcap12, HR12.out, HX14.out⟩)
        · simp only [opsAt, List.map_cons, List.map_nil, List.toList_toArray, List.getD_cons_succ, List.getD_cons_zero]
          go_wp2_with fail
          obtain ⟨w11, hw11⟩ : ∃ W, W = w10.alloc (.cells #[.string (bs oth)] 9) := ⟨_, rfl⟩
          rw [← hw11]
          have hb : Below w10.heap.size w10 w11 := by rw [hw11]; exact (Below.refl _ _).alloc (Nat.le_refl _) _
          have hnew : IsBlk w11 w10.heap.size #[.string (bs oth)] 9 := by rw [hw11]; exact IsBlk.new _ _ _
          clear hw11
          have hge11 : w7.heap.size ≤ w10.heap.size := HX10.out.size
          have HX11 := Lib.hid (HX10.out.trans (hb.mono HX10.out.size))
          have HB11 := Lib.hid (HB7.out.trans (HX11.out.mono hsz7))
          clear hb
          have HK11_11 := Lib.hid hnew
          refine ThenB.mk (Cls.of HB11.out) (fun hCw => ?_)
          refine mixB_ch (i := 7) (fuel := 23) (by kernel_rfl) (by kernel_rfl) ?_
          simp only [opsAt, List.map_cons, List.map_nil, List.toList_toArray, List.getD_cons_succ, List.getD_cons_zero]
          go_wp2_with fail
          obtain ⟨w12, hw12⟩ : ∃ W, W = w11.alloc (.cells #[] 9) := ⟨_, rfl⟩
          rw [← hw12]
          have hb : Below w11.heap.size w11 w12 := by rw [hw12]; exact (Below.refl _ _).alloc (Nat.le_refl _) _
          have hnew : IsBlk w12 w11.heap.size #[] 9 := by rw [hw12]; exact IsBlk.new _ _ _
          clear hw12
          have hge7 : w7.heap.size ≤ w11.heap.size := HX11.out.size
          have hne : w11.heap.size ≠ w10.heap.size := by have := HK11_11.out.lt; omega
          have HX12 := Lib.hid (HX11.out.trans (hb.mono HX11.out.size))
          have HB12 := Lib.hid (HB7.out.trans (HX12.out.mono hsz7))
          have HK11_12 := Lib.hid (HK11_11.out.ext hb)
          clear hb
          have HK7_12 := Lib.hid hnew
          refine ThenB.mk (Cls.of HB12.out) (fun hCw => ?_)
          refine mixB_ch (i := 9) (fuel := 22) (by kernel_rfl) (by kernel_rfl) ?_
          simp only [opsAt, List.map_cons, List.map_nil, List.toList_toArray, List.getD_cons_succ, List.getD_cons_zero]
          have HO0 := Lib.hid (own_lit (cs := []) HK7_12.out hge7 rfl (by decide))
          go_wp2_with (at_builtin; refine push_texts w7.heap.size rfl _ _ rfl (.slice (some ⟨w11.heap.size, 0, none⟩) 0 0) [] HO0.out _ _ _ GV (HRGa7.out.ext HX12.out) hnoneGa rfl rfl (HX12.out.size) (by simp; omega) ?_; intro v9 w13 hown hg)
          have HX13 := Lib.hid (below_grown HX12.out hg HX12.out.size (fun z hz => (HO0.out.lt z hz).1))
          have HB13 := Lib.hid (HB7.out.trans (HX13.out.mono hsz7))
          have HO9_13 : Hid (w13.ownsRow w7.heap.size 9 1 v9 GV.length (strsV GV)) := Lib.hid (by simpa [strsV] using hown)
          have HK11_13 := Lib.hid (blk_grown HK11_12.out hg (fun h => hne (Option.some.inj h)))
          clear hown hg
          refine ThenB.mk (Cls.of HB13.out) (fun hCw => ?_)
          refine mixB_ch (i := 12) (fuel := 21) (by kernel_rfl) (by kernel_rfl) ?_
          simp only [opsAt, List.map_cons, List.map_nil, List.toList_toArray, List.getD_cons_succ, List.getD_cons_zero]
          go_wp2_with (at_builtin; refine push_at w7.heap.size rfl _ _ 22 9 (.string (bs [])) 16 rfl Tryd.underlying22 (by kernel_rfl) rfl (by decide) _ GV.length _ HO9_13.out (w10.heap.size) 1 [.string (bs oth)] HK11_13.out rfl rfl rfl (by simp [Value.oneCell']) (HX13.out.size) (by omega) ?_; intro v12 w14 hown hg)
          have HX14 := Lib.hid (below_grown HX13.out hg HX13.out.size (fun z hz => (HO9_13.out.lt z hz).1))
          have HB14 := Lib.hid (HB7.out.trans (HX14.out.mono hsz7))
          have hown2 : w14.ownsRow w7.heap.size 9 1 v12 R12.length (strsV R12) := by rw [HR.out]; simpa [strsV] using hown
          obtain ⟨p12, c12, rfl, hcap12, _, hr12⟩ := hasS_ownN (l := R12) hown2
          have HR12 := Lib.hid hr12
          clear hown hown2 hg hr12
          refine ThenB.mk (Cls.of HB14.out) (fun hCw => ?_)
          exact mixB_listed (by kernel_rfl) (JOIN _ _ _ _ w14 ⟨p12, c12, rfl, hcap12, HR12.out, HX14.out⟩)
      · simp only [opsAt, List.map_cons, List.map_nil, List.toList_toArray, List.getD_cons_succ, List.getD_cons_zero]
        go_wp2_with fail
        obtain ⟨w10, hw10⟩ : ∃ W, W = w9.alloc (.cells #[] 9) := ⟨_, rfl⟩
        rw [← hw10]
        have hb : Below w9.heap.size w9 w10 := by rw [hw10]; exact (Below.refl _ _).alloc (Nat.le_refl _) _
        have hnew : IsBlk w10 w9.heap.size #[] 9 := by rw [hw10]; exact IsBlk.new _ _ _
        clear hw10
        have hge7 : w7.heap.size ≤ w9.heap.size := HX9.out.size
        have HX10 := Lib.hid (HX9.out.trans (hb.mono HX9.out.size))
        have HB10 := Lib.hid (HB7.out.trans (HX10.out.mono hsz7))
        clear hb
        have HK7_10 := Lib.hid hnew
        refine ThenB.mk (Cls.of HB10.out) (fun hCw => ?_)
        refine mixB_br (i := 3) (j := 11) (fuel := 24) (by kernel_rfl) (by kernel_rfl) ?_ ?_
        · simp only [opsAt, List.map_cons, List.map_nil, List.toList_toArray, List.getD_cons_succ, List.getD_cons_zero]
          go_wp2_with (go_at_call 18; refine (root_made _ l gA tpA tcA w10 (HTA7.out.ext HX10.out)).mono ?_; rintro e' w11 ⟨rfl, hb⟩)
          have HX11 := Lib.hid (HX10.out.trans (hb.mono HX10.out.size))
          have HB11 := Lib.hid (HB7.out.trans (HX11.out.mono hsz7))
          have HK7_11 := Lib.hid (HK7_10.out.ext hb)
          clear hb
          refine ThenB.mk (Cls.of HB11.out) (fun hCw => ?_)
          refine mixB_br (i := 9) (j := 11) (fuel := 23) (by kernel_rfl) (by kernel_rfl) ?_ ?_
          · simp only [opsAt, List.map_cons, List.map_nil, List.toList_toArray, List.getD_cons_succ, List.getD_cons_zero]
            have HO0 := Lib.hid (own_lit (cs := []) HK7_11.out hge7 rfl (by decide))
            go_wp2_with (at_builtin; refine push_texts w7.heap.size rfl _ _ rfl (.slice (some ⟨w9.heap.size, 0, none⟩) 0 0) [] HO0.out _ _ _ GV (HRGa7.out.ext HX11.out) hnoneGa rfl rfl (HX11.out.size) (by simp; omega) ?_; intro v9 w12 hown hg)
            have HX12 := Lib.hid (below_grown HX11.out hg HX11.out.size (fun z hz => (HO0.out.lt z hz).1))
            have HB12 := Lib.hid (HB7.out.trans (HX12.out.mono hsz7))
            have HO9_12 : Hid (w12.ownsRow w7.heap.size 9 1 v9 GV.length (strsV GV)) := Lib.hid (by simpa [strsV] using hown)
            clear hown hg
            refine ThenB.mk (Cls.of HB12.out) (fun hCw => ?_)
            refine mixB_ch (i := 11) (fuel := 22) (by kernel_rfl) (by kernel_rfl) ?_
            simp only [opsAt, List.map_cons, List.map_nil, List.toList_toArray, List.getD_cons_succ, List.getD_cons_zero]
            go_wp2_with fail
            obtain ⟨w13, hw13⟩ : ∃ W, W = w12.alloc (.cells #[.string (bs oth)] 9) := ⟨_, rfl⟩
            rw [← hw13]
            have hb : Below w12.heap.size w12 w13 := by rw [hw13]; exact (Below.refl _ _).alloc (Nat.le_refl _) _
            have hnew : IsBlk w13 w12.heap.size #[.string (bs oth)] 9 := by rw [hw13]; exact IsBlk.new _ _ _
            clear hw13
            have hge11 : w7.heap.size ≤ w12.heap.size := HX12.out.size
            have HX13 := Lib.hid (HX12.out.trans (hb.mono HX12.out.size))
            have HB13 := Lib.hid (HB7.out.trans (HX13.out.mono hsz7))
            have HO9_13 := Lib.hid (own_ext HO9_12.out hb)
            clear hb
            have HK11_13 := Lib.hid hnew
            refine ThenB.mk (Cls.of HB13.out) (fun hCw => ?_)
            refine mixB_ch (i := 12) (fuel := 21) (by kernel_rfl) (by kernel_rfl) ?_
            simp only [opsAt, List.map_cons, List.map_nil, List.toList_toArray, List.getD_cons_succ, List.getD_cons_zero]
            go_wp2_with (at_builtin; refine push_at w7.heap.size rfl _ _ 22 9 (.string (bs [])) 16 rfl Tryd.underlying22 (by kernel_rfl) rfl (by decide) _ GV.length _ HO9_13.out (w12.heap.size) 1 [.string (bs oth)] HK11_13.out rfl rfl rfl (by simp [Value.oneCell']) (HX13.out.size) (by omega) ?_; intro v12 w14 hown hg)
            have HX14 := Lib.hid (below_grown HX13.out hg HX13.out.size (fun z hz => (HO9_13.out.lt z hz).1))
            have HB14 := Lib.hid (HB7.out.trans (HX14.out.mono hsz7))
            have hown2 : w14.ownsRow w7.heap.size 9 1 v12 R12.length (strsV R12) := by rw [HR.out]; simpa [strsV] using hown
            obtain ⟨p12, c12, rfl, hcap12, _, hr12⟩ := hasS_ownN (l := R12) hown2
            have HR12 := Lib.hid hr12
            clear hown hown2 hg hr12
            refine ThenB.mk (Cls.of HB14.out) (fun hCw => ?_)
            exact mixB_listed (by kernel_rfl) (JOIN _ _ _ _ w14 ⟨p12, c12, rfl, hcap12, HR12.out, HX14.out⟩)
          · simp only [opsAt, List.map_cons, List.map_nil, List.toList_toArray, List.getD_cons_succ, List.getD_cons_zero]
            go_wp2_with fail
            obtain ⟨w12, hw12⟩ : ∃ W, W = w11.alloc (.cells #[.string (bs oth)] 9) := ⟨_, rfl⟩
            rw [← hw12]
            have hb : Below w11.heap.size w11 w12 := by rw [hw12]; exact (Below.refl _ _).alloc (Nat.le_refl _) _
            have hnew : IsBlk w12 w11.heap.size #[.string (bs oth)] 9 := by rw [hw12]; exact IsBlk.new _ _ _
            clear hw12
            have hge11 : w7.heap.size ≤ w11.heap.size := HX11.out.size
            have hne : w9.heap.size ≠ w11.heap.size := by have := HK7_11.out.lt; omega
            have HX12 := Lib.hid (HX11.out.trans (hb.mono HX11.out.size))
            have HB12 := Lib.hid (HB7.out.trans (HX12.out.mono hsz7))
            have HK7_12 := Lib.hid (HK7_11.out.ext hb)
            clear hb
            have HK11_12 := Lib.hid hnew
            refine ThenB.mk (Cls.of HB12.out) (fun hCw => ?_)
            refine mixB_ch (i := 9) (fuel := 22) (by kernel_rfl) (by kernel_rfl) ?_
            simp only [opsAt, List.map_cons, List.map_nil, List.toList_toArray, List.getD_cons_succ, List.getD_cons_zero]
            have HO0 := Lib.hid (own_lit (cs := []) HK7_12.out hge7 rfl (by decide))
            go_wp2_with (at_builtin; refine push_texts w7.heap.size rfl _ _ rfl (.slice (some ⟨w9.heap.size, 0, none⟩) 0 0) [] HO0.out _ _ _ GV (HRGa7.out.ext HX12.out) hnoneGa rfl rfl (HX12.out.size) (by simp; omega) ?_; intro v9 w13 hown hg)
            have HX13 := Lib.hid (below_grown HX12.out hg HX12.out.size (fun z hz => (HO0.out.lt z hz).1))
            have HB13 := Lib.hid (HB7.out.trans (HX13.out.mono hsz7))
            have HO9_13 : Hid (w13.ownsRow w7.heap.size 9 1 v9 GV.length (strsV GV)) := Lib.hid (by simpa [strsV] using hown)
            have HK11_13 := Lib.hid (blk_grown HK11_12.out hg (fun h => hne (Option.some.inj h)))
            clear hown hg
            refine ThenB.mk (Cls.of HB13.out) (fun hCw => ?_)
            refine mixB_ch (i := 12) (fuel := 21) (by kernel_rfl) (by kernel_rfl) ?_
            simp only [opsAt, List.map_cons, List.map_nil, List.toList_toArray, List.getD_cons_succ, List.getD_cons_zero]
            go_wp2_with (at_builtin; refine push_at w7.heap.size rfl _ _ 22 9 (.string (bs [])) 16 rfl Tryd.underlying22 (by kernel_rfl) rfl (by decide) _ GV.length _ HO9_13.out (w11.heap.size) 1 [.string (bs oth)] HK11_13.out rfl rfl rfl (by simp [Value.oneCell']) (HX13.out.size) (by omega) ?_; intro v12 w14 hown hg)
            have HX14 := Lib.hid (below_grown HX13.out hg HX13.out.size (fun z hz => (HO9_13.out.lt z hz).1))
            have HB14 := Lib.hid (HB7.out.trans (HX14.out.mono hsz7))
            have hown2 : w14.ownsRow w7.heap.size 9 1 v12 R12.length (strsV R12) := by rw [HR.out]; simpa [strsV] using hown
            obtain ⟨p12, c12, rfl, hcap12, _, hr12⟩ := hasS_ownN (l := R12) hown2
            have HR12 := Lib.hid hr12
            clear hown hown2 hg hr12
            refine ThenB.mk (Cls.of HB14.out) (fun hCw => ?_)
            exact mixB_listed (by kernel_rfl) (JOIN _ _ _ _ w14 ⟨p12, c12, rfl, hcap12, HR12.out, HX14.out⟩)
        · simp only [opsAt, List.map_cons, List.map_nil, List.toList_toArray, List.getD_cons_succ, List.getD_cons_zero]
          go_wp2_with fail
          obtain ⟨w11, hw11⟩ : ∃ W, W = w10.alloc (.cells #[.string (bs oth)] 9) := ⟨_, rfl⟩
          rw [← hw11]
          have hb : Below w10.heap.size w10 w11 := by rw [hw11]; exact (Below.refl _ _).alloc (Nat.le_refl _) _
          have hnew : IsBlk w11 w10.heap.size #[.string (bs oth)] 9 := by rw [hw11]; exact IsBlk.new _ _ _
          clear hw11
          have hge11 : w7.heap.size ≤ w10.heap.size := HX10.out.size
          have hne : w9.heap.size ≠ w10.heap.size := by have := HK7_10.out.lt; omega
          have HX11 := Lib.hid (HX10.out.trans (hb.mono HX10.out.size))
          have HB11 := Lib.hid (HB7.out.trans (HX11.out.mono hsz7))
          have HK7_11 := Lib.hid (HK7_10.out.ext hb)
          clear hb
          have HK11_11 := Lib.hid hnew
          refine ThenB.mk (Cls.of HB11.out) (fun hCw => ?_)
          refine mixB_ch (i := 3) (fuel := 23) (by kernel_rfl) (by kernel_rfl) ?_
          simp only [opsAt, List.map_cons, List.map_nil, List.toList_toArray, List.getD_cons_succ, List.getD_cons_zero]
          go_wp2_with (go_at_call 18; refine (root_made _ l gA tpA tcA w11 (HTA7.out.ext HX11.out)).mono ?_; rintro e' w12 ⟨rfl, hb⟩)
          have HX12 := Lib.hid (HX11.out.trans (hb.mono HX11.out.size))
          have HB12 := Lib.hid (HB7.out.trans (HX12.out.mono hsz7))
          have HK7_12 := Lib.hid (HK7_11.out.ext hb)
          have HK11_12 := Lib.hid (HK11_11.out.ext hb)
          clear hb
          refine ThenB.mk (Cls.of HB12.out) (fun hCw => ?_)
          refine mixB_ch (i := 9) (fuel := 22) (by kernel_rfl) (by kernel_rfl) ?_
          simp only [opsAt, List.map_cons, List.map_nil, List.toList_toArray, List.getD_cons_succ, List.getD_cons_zero]
          have HO0 := Lib.hid (own_lit (cs := []) HK7_12.out hge7 rfl (by decide))
          go_wp2_with (at_builtin; refine push_texts w7.heap.size rfl _ _ rfl (.slice (some ⟨w9.heap.size, 0, none⟩) 0 0) [] HO0.out _ _ _ GV (HRGa7.out.ext HX12.out) hnoneGa rfl rfl (HX12.out.size) (by simp; omega) ?_; intro v9 w13 hown hg)
          have HX13 := Lib.hid (below_grown HX12.out hg HX12.out.size (fun z hz => (HO0.out.lt z hz).1))
          have HB13 := Lib.hid (HB7.out.trans (HX13.out.mono hsz7))
          have HO9_13 : Hid (w13.ownsRow w7.heap.size 9 1 v9 GV.length (strsV GV)) := Lib.hid (by simpa [strsV] using hown)
          have HK11_13 := Lib.hid (blk_grown HK11_12.out hg (fun h => hne (Option.some.inj h)))
          clear hown hg
          refine ThenB.mk (Cls.of HB13.out) (fun hCw => ?_)
          refine mixB_ch (i := 12) (fuel := 21) (by kernel_rfl) (by kernel_rfl) ?_
          simp only [opsAt, List.map_cons, List.map_nil, List.toList_toArray, List.getD_cons_succ, List.getD_cons_zero]
          go_wp2_with (at_builtin; refine push_at w7.heap.size rfl _ _ 22 9 (.string (bs [])) 16 rfl Tryd.underlying22 (by kernel_rfl) rfl (by decide) _ GV.length _ HO9_13.out (w10.heap.size) 1 [.string (bs oth)] HK11_13.out rfl rfl rfl (by simp [Value.oneCell']) (HX13.out.size) (by omega) ?_; intro v12 w14 hown hg)
          have HX14 := Lib.hid (below_grown HX13.out hg HX13.out.size (fun z hz => (HO9_13.out.lt z hz).1))
          have HB14 := Lib.hid (HB7.out.trans (HX14.out.mono hsz7))
          have hown2 : w14.ownsRow w7.heap.size 9 1 v12 R12.length (strsV R12) := by rw [HR.out]; simpa [strsV] using hown
          obtain ⟨p12, c12, rfl, hcap12, _, hr12⟩ := hasS_ownN (l := R12) hown2
          have HR12 := Lib.hid hr12
          clear hown hown2 hg hr12
          refine ThenB.mk (Cls.of HB14.out) (fun hCw => ?_)
          exact mixB_listed (by kernel_rfl) (JOIN _ _ _ _ w14 ⟨p12, c12, rfl, hcap12, HR12.out, HX14.out⟩)
      · simp only [opsAt, List.map_cons, List.map_nil, List.toList_toArray, List.getD_cons_succ, List.getD_cons_zero]
        go_wp2_with fail
        obtain ⟨w10, hw10⟩ : ∃ W, W = w9.alloc (.cells #[.string (bs oth)] 9) := ⟨_, rfl⟩
        rw [← hw10]
        have hb : Below w9.heap.size w9 w10 := by rw [hw10]; exact (Below.refl _ _).alloc (Nat.le_refl _) _
        have hnew : IsBlk w10 w9.heap.size #[.string (bs oth)] 9 := by rw [hw10]; exact IsBlk.new _ _ _
        clear hw10
        have hge11 : w7.heap.size ≤ w9.heap.size := HX9.out.size
        have HX10 := Lib.hid (HX9.out.trans (hb.mono HX9.out.size))
        have HB10 := Lib.hid (HB7.out.trans (HX10.out.mono hsz7))
        clear hb
        have HK11_10 := Lib.hid hnew
        refine ThenB.mk (Cls.of HB10.out) (fun hCw => ?_)
        refine mixB_br (i := 3) (j := 7) (fuel := 24) (by kernel_rfl) (by kernel_rfl) ?_ ?_
        · simp only [opsAt, List.map_cons, List.map_nil, List.toList_toArray, List.getD_cons_succ, List.getD_cons_zero]
          go_wp2_with (go_at_call 18; refine (root_made _ l gA tpA tcA w10 (HTA7.out.ext HX10.out)).mono ?_; rintro e' w11 ⟨rfl, hb⟩)
          have HX11 := Lib.hid (HX10.out.trans (hb.mono HX10.out.size))
          have HB11 := Lib.hid (HB7.out.trans (HX11.out.mono hsz7))
          have HK11_11 := Lib.hid (HK11_10.out.ext hb)
          clear hb
          refine ThenB.mk (Cls.of HB11.out) (fun hCw => ?_)
          refine mixB_ch (i := 7) (fuel := 23) (by kernel_rfl) (by kernel_rfl) ?_
          simp only [opsAt, List.map_cons, List.map_nil, List.toList_toArray, List.getD_cons_succ, List.getD_cons_zero]
          go_wp2_with fail
          obtain ⟨w12, hw12⟩ : ∃ W, W = w11.alloc (.cells #[] 9) := ⟨_, rfl⟩
          rw [← hw12]
          have hb : Below w11.heap.size w11 w12 := by rw [hw12]; exact (Below.refl _ _).alloc (Nat.le_refl _) _
          have hnew : IsBlk w12 w11.heap.size #[] 9 := by rw [hw12]; exact IsBlk.new _ _ _
          clear hw12
          have hge7 : w7.heap.size ≤ w11.heap.size := HX11.out.size
          have hne : w11.heap.size ≠ w9.heap.size := by have := HK11_11.out.lt; omega
          have HX12 := Lib.hid (HX11.out.trans (hb.mono HX11.out.size))
          have HB12 := Lib.hid (HB7.out.trans (HX12.out.mono hsz7))
          have HK11_12 := Lib.hid (HK11_11.out.ext hb)
          clear hb
          have HK7_12 := Lib.hid hnew
          refine ThenB.mk (Cls.of HB12.out) (fun hCw => ?_)
          refine mixB_ch (i := 9) (fuel := 22) (by kernel_rfl) (by kernel_rfl) ?_
          simp only [opsAt, List.map_cons, List.map_nil, List.toList_toArray, List.getD_cons_succ, List.getD_cons_zero]
          have HO0 := Lib.hid (own_lit (cs := []) HK7_12.out hge7 rfl (by decide))
          go_wp2_with (at_builtin; refine push_texts w7.heap.size rfl _ _ rfl (.slice (some ⟨w11.heap.size, 0, none⟩) 0 0) [] HO0.out _ _ _ GV (HRGa7.out.ext HX12.out) hnoneGa rfl rfl (HX12.out.size) (by simp; omega) ?_; intro v9 w13 hown hg)
          have HX13 := Lib.hid (below_grown HX12.out hg HX12.out.size (fun z hz => (HO0.out.lt z hz).1))
          have HB13 := Lib.hid (HB7.out.trans (HX13.out.mono hsz7))
          have HO9_13 : Hid (w13.ownsRow w7.heap.size 9 1 v9 GV.length (strsV GV)) := Lib.hid (by simpa [strsV] using hown)
          have HK11_13 := Lib.hid (blk_grown HK11_12.out hg (fun h => hne (Option.some.inj h)))
          clear hown hg
          refine ThenB.mk (Cls.of HB13.out) (fun hCw => ?_)
          refine mixB_ch (i := 12) (fuel := 21) (by kernel_rfl) (by kernel_rfl) ?_
          simp only [opsAt, List.map_cons, List.map_nil, List.toList_toArray, List.getD_cons_succ, List.getD_cons_zero]
          go_wp2_with (at_builtin; refine push_at w7.heap.size rfl _ _ 22 9 (.string (bs [])) 16 rfl Tryd.underlying22 (by kernel_rfl) rfl (by decide) _ GV.length _ HO9_13.out (w9.heap.size) 1 [.string (bs oth)] HK11_13.out rfl rfl rfl (by simp [Value.oneCell']) (HX13.out.size) (by omega) ?_; intro v12 w14 hown hg)
          have HX14 := Lib.hid (below_grown HX13.out hg HX13.out.size (fun z hz => (HO9_13.out.lt z hz).1))
          have HB14 := Lib.hid (HB7.out.trans (HX14.out.mono hsz7))
          have hown2 : w14.ownsRow w7.heap.size 9 1 v12 R12.length (strsV R12) := by rw [HR.out]; simpa [strsV] using hown
          obtain ⟨p12, c12, rfl, hcap12, _, hr12⟩ := hasS_ownN (l := R12) hown2
          have HR12 := Lib.hid hr12
          clear hown hown2 hg hr12
          refine ThenB.mk (Cls.of HB14.out) (fun hCw => ?_)
          exact mixB_listed (by kernel_rfl) (JOIN _ _ _ _ w14 ⟨p12, c12, rfl, hcap12, HR12.out, HX14.out⟩)
        · simp only [opsAt, List.map_cons, List.map_nil, List.toList_toArray, List.getD_cons_succ, List.getD_cons_zero]
          go_wp2_with fail
          obtain ⟨w11, hw11⟩ : ∃ W, W = w10.alloc (.cells #[] 9) := ⟨_, rfl⟩
          rw [← hw11]
          have hb : Below w10.heap.size w10 w11 := by rw [hw11]; exact (Below.refl _ _).alloc (Nat.le_refl _) _
          have hnew : IsBlk w11 w10.heap.size #[] 9 := by rw [hw11]; exact IsBlk.new _ _ _
          clear hw11
          have hge7 : w7.heap.size ≤ w10.heap.size := HX10.out.size
          have hne : w10.heap.size ≠ w9.heap.size := by have := HK11_10.out.lt; omega
          have HX11 := Lib.hid (HX10.out.trans (hb.mono HX10.out.size))
          have HB11 := Lib.hid (HB7.out.trans (HX11.out.mono hsz7))
          have HK11_11 := Lib.hid (HK11_10.out.ext hb)
          clear hb
          have HK7_11 := Lib.hid hnew
          refine ThenB.mk (Cls.of HB11.out) (fun hCw => ?_)
          refine mixB_ch (i := 3) (fuel := 23) (by kernel_rfl) (by kernel_rfl) ?_
          simp only [opsAt, List.map_cons, List.map_nil, List.toList_toArray, List.getD_cons_succ, List.getD_cons_zero]
          go_wp2_with (go_at_call 18; refine (root_made _ l gA tpA tcA w11 (HTA7.out.ext HX11.out)).mono ?_; rintro e' w12 ⟨rfl, hb⟩)
          have HX12 := Lib.hid (HX11.out.trans (hb.mono HX11.out.size))
          have HB12 := Lib.hid (HB7.out.trans (HX12.out.mono hsz7))
          have HK7_12 := Lib.hid (HK7_11.out.ext hb)
          have HK11_12 := Lib.hid (HK11_11.out.ext hb)
          clear hb
          refine ThenB.mk (Cls.of HB12.out) (fun hCw => ?_)
          refine mixB_ch (i := 9) (fuel := 22) (by kernel_rfl) (by kernel_rfl) ?_
          simp only [opsAt, List.map_cons, List.map_nil, List.toList_toArray, List.getD_cons_succ, List.getD_cons_zero]
          have HO0 := Lib.hid (own_lit (cs := []) HK7_12.out hge7 rfl (by decide))
          go_wp2_with (at_builtin; refine push_texts w7.heap.size rfl _ _ rfl (.slice (some ⟨w10.heap.size, 0, none⟩) 0 0) [] HO0.out _ _ _ GV (HRGa7.out.ext HX12.out) hnoneGa rfl rfl (HX12.out.size) (by simp; omega) ?_; intro v9 w13 hown hg)
          have HX13 := Lib.hid (below_grown HX12.out hg HX12.out.size (fun z hz => (HO0.out.lt z hz).1))
          have HB13 := Lib.hid (HB7.out.trans (HX13.out.mono hsz7))
          have HO9_13 : Hid (w13.ownsRow w7.heap.size 9 1 v9 GV.length (strsV GV)) := Lib.hid (by simpa [strsV] using hown)
          have HK11_13 := Lib.hid (blk_grown HK11_12.out hg (fun h => hne (Option.some.inj h)))
          clear hown hg
          refine ThenB.mk (Cls.of HB13.out) (fun hCw => ?_)
          refine mixB_ch (i := 12) (fuel := 21) (by kernel_rfl) (by kernel_rfl) ?_
          simp only [opsAt, List.map_cons, List.map_nil, List.toList_toArray, List.getD_cons_succ, List.getD_cons_zero]
          go_wp2_with (at_builtin; refine push_at w7.heap.size rfl _ _ 22 9 (.string (bs [])) 16 rfl Tryd.underlying22 (by kernel_rfl) rfl (by decide) _ GV.length _ HO9_13.out (w9.heap.size) 1 [.string (bs oth)] HK11_13.out rfl rfl rfl (by simp [Value.oneCell']) (HX13.out.size) (by omega) ?_; intro v12 w14 hown hg)
          have HX14 := Lib.hid (below_grown HX13.out hg HX13.out.size (fun z hz => (HO9_13.out.lt z hz).1))
          have HB14 := Lib.hid (HB7.out.trans (HX14.out.mono hsz7))
          have hown2 : w14.ownsRow w7.heap.size 9 1 v12 R12.length (strsV R12) := by rw [HR.out]; simpa [strsV] using hown
          obtain ⟨p12, c12, rfl, hcap12, _, hr12⟩ := hasS_ownN (l := R12) hown2
          have HR12 := Lib.hid hr12
          clear hown hown2 hg hr12
          refine ThenB.mk (Cls.of HB14.out) (fun hCw => ?_)
          exact mixB_listed (by kernel_rfl) (JOIN _ _ _ _ w14 ⟨p12, c12, rfl, hcap12, HR12.out, HX14.out⟩)
    · simp only [opsAt, List.map_cons, List.map_nil, List.toList_toArray, List.getD_cons_succ, List.getD_cons_zero]
      go_wp2_with fail
      obtain ⟨w9, hw9⟩ : ∃ W, W = w8.alloc (.cells #[] 9) := ⟨_, rfl⟩
      rw [← hw9]
      have hb : Below w8.heap.size w8 w9 := by rw [hw9]; exact (Below.refl _ _).alloc (Nat.le_refl _) _
      have hnew : IsBlk w9 w8.heap.size #[] 9 := by rw [hw9]; exact IsBlk.new _ _ _
      clear hw9
      have hge7 : w7.heap.size ≤ w8.heap.size := HX8.out.size
      have HX9 := Lib.hid (HX8.out.trans (hb.mono HX8.out.size))
      have HB9 := Lib.hid (HB7.out.trans (HX9.out.mono hsz7))
      clear hb
      have HK7_9 := Lib.hid hnew
      refine ThenB.mk (Cls.of HB9.out) (fun hCw => ?_)
      refine mixB_br (i := 1) (j := 11) (fuel := 25) (by kernel_rfl) (by kernel_rfl) ?_ ?_
      · simp only [opsAt, List.map_cons, List.map_nil, List.toList_toArray, List.getD_cons_succ, List.getD_cons_zero]
        go_wp2_with (go_at_call 18; refine (root_made _ (l.take m) gU tpU tcU w9 (HTU7.out.ext HX9.out)).mono ?_; rintro e' w10 ⟨rfl, hb⟩)
        have HX10 := Lib.hid (HX9.out.trans (hb.mono HX9.out.size))
        have HB10 := Lib.hid (HB7.out.trans (HX10.out.mono hsz7))
        have HK7_10 := Lib.hid (HK7_9.out.ext hb)
        clear hb
        refine ThenB.mk (Cls.of HB10.out) (fun hCw => ?_)
        refine mixB_br (i := 3) (j := 11) (fuel := 24) (by kernel_rfl) (by kernel_rfl) ?_ ?_
        · simp only [opsAt, List.map_cons, List.map_nil, List.toList_toArray, List.getD_cons_succ, List.getD_cons_zero]
          go_wp2_with (go_at_call 18; refine (root_made _ l gA tpA tcA w10 (HTA7.out.ext HX10.out)).mono ?_; rintro e' w11 ⟨rfl, hb⟩)
          have HX11 := Lib.hid (HX10.out.trans (hb.mono HX10.out.size))
          have HB11 := Lib.hid (HB7.out.trans (HX11.out.mono hsz7))
          have HK7_11 := Lib.hid (HK7_10.out.ext hb)
          clear hb
          refine ThenB.mk (Cls.of HB11.out) (fun hCw => ?_)
          refine mixB_br (i := 9) (j := 11) (fuel := 23) (by kernel_rfl) (by kernel_rfl) ?_ ?_
          · simp only [opsAt, List.map_cons, List.map_nil, List.toList_toArray, List.getD_cons_succ, List.getD_cons_zero]
            have HO0 := Lib.hid (own_lit (cs := []) HK7_11.out hge7 rfl (by decide))
            go_wp2_with (at_builtin; refine push_texts w7.heap.size rfl _ _ rfl (.slice (some ⟨w8.heap.size, 0, none⟩) 0 0) [] HO0.out _ _ _ GV (HRGa7.out.ext HX11.out) hnoneGa rfl rfl (HX11.out.size) (by simp; omega) ?_; intro v9 w12 hown hg)
            have HX12 := Lib.hid (below_grown HX11.out hg HX11.out.size (fun z hz => (HO0.out.lt z hz).1))
            have HB12 := Lib.hid (HB7.out.trans (HX12.out.mono hsz7))
            have HO9_12 : Hid (w12.ownsRow w7.heap.size 9 1 v9 GV.length (strsV GV)) := Lib.hid (by simpa [strsV] using hown)
            clear hown hg
            refine ThenB.mk (Cls.of HB12.out) (fun hCw => ?_)
            refine mixB_ch (i := 11) (fuel := 22) (by kernel_rfl) (by kernel_rfl) ?_
            simp only [opsAt, List.map_cons, List.map_nil, List.toList_toArray, List.getD_cons_succ, List.getD_cons_zero]
            go_wp2_with fail
            obtain ⟨w13, hw13⟩ : ∃ W, W = w12.alloc (.cells #[.string (bs oth)] 9) := ⟨_, rfl⟩
            rw [← hw13]
            have hb : Below w12.heap.size w12 w13 := by rw [hw13]; exact (Below.refl _ _).alloc (Nat.le_refl _) _
            have hnew : IsBlk w13 w12.heap.size #[.string (bs oth)] 9 := by rw [hw13]; exact IsBlk.new _ _ _
            clear hw13
            have hge11 : w7.heap.size ≤ w12.heap.size := HX12.out.size
            have HX13 := Lib.hid (HX12.out.trans (hb.mono HX12.out.size))
            have HB13 := Lib.hid (HB7.out.trans (HX13.out.mono hsz7))
            have HO9_13 := Lib.hid (own_ext HO9_12.out hb)
            clear hb
            have HK11_13 := Lib.hid hnew
            refine ThenB.mk (Cls.of HB13.out) (fun hCw => ?_)
            refine mixB_ch (i := 12) (fuel := 21) (by kernel_rfl) (by kernel_rfl) ?_
            simp only [opsAt, List.map_cons, List.map_nil, List.toList_toArray, List.getD_cons_succ, List.getD_cons_zero]
            go_wp2_with (at_builtin; refine push_at w7.heap.size rfl _ _ 22 9 (.string (bs [])) 16 rfl Tryd.underlying22 (by kernel_rfl) rfl (by decide) _ GV.length _ HO9_13.out (w12.heap.size) 1 [.string (bs oth)] HK11_13.out rfl rfl rfl (by simp [Value.oneCell']) (HX13.out.size) (by omega) ?_; intro v12 w14 hown hg)
            have HX14 := Lib.hid (below_grown HX13.out hg HX13.out.size (fun z hz => (HO9_13.out.lt z hz).1))
            have HB14 := Lib.hid (HB7.out.trans (HX14.out.mono hsz7))
            have hown2 : w14.ownsRow w7.heap.size 9 1 v12 R12.length (strsV R12) := by rw [HR.out]; simpa [strsV] using hown
            obtain ⟨p12, c12, rfl, hcap12, _, hr12⟩ := hasS_ownN (l := R12) hown2
            have HR12 := Lib.hid hr12
            clear hown hown2 hg hr12
            refine ThenB.mk (Cls.of HB14.out) (fun hCw => ?_)
            exact mixB_listed (by kernel_rfl) (JOIN _ _ _ _ w14 ⟨p12, c12, rfl, hcap12, HR12.out, HX14.out⟩)
          · simp only [opsAt, List.map_cons, List.map_nil, List.toList_toArray, List.getD_cons_succ, List.getD_cons_zero]
            go_wp2_with fail
            obtain ⟨w12, hw12⟩ : ∃ W, W = w11.alloc (.cells #[.string (bs oth)] 9) := ⟨_, rfl⟩
            rw [← hw12]
            have hb : Below w11.heap.size w11 w12 := by rw [hw12]; exact (Below.refl _ _).alloc (Nat.le_refl _) _
            have hnew : IsBlk w12 w11.heap.size #[.string (bs oth)] 9 := by rw [hw12]; exact IsBlk.new _ _ _
            clear hw12
            have hge11 : w7.heap.size ≤ w11.heap.size := HX11.out.size
            have hne : w8.heap.size ≠ w11.heap.size := by have := HK7_11.out.lt; omega
            have HX12 := Lib.hid (HX11.out.trans (hb.mono HX11.out.size))
            have HB12 := Lib.hid (HB7.out.trans (HX12.out.mono hsz7))
            have HK7_12 := Lib.hid (HK7_11.out.ext hb)
            clear hb
            have HK11_12 := Lib.hid hnew
            refine ThenB.mk (Cls.of HB12.out) (fun hCw => ?_)
            refine mixB_ch (i := 9) (fuel := 22) (by kernel_rfl) (by kernel_rfl) ?_
            simp only [opsAt, List.map_cons, List.map_nil, List.toList_toArray, List.getD_cons_succ, List.getD_cons_zero]
            have HO0 := Lib.hid (own_lit (cs := []) HK7_12.out hge7 rfl (by decide))
            go_wp2_with (at_builtin; refine push_texts w7.heap.size rfl _ _ rfl (.slice (some ⟨w8.heap.size, 0, none⟩) 0 0) [] HO0.out _ _ _ GV (HRGa7.out.ext HX12.out) hnoneGa rfl rfl (HX12.out.size) (by simp; omega) ?_; intro v9 w13 hown hg)
            have HX13 := Lib.hid (below_grown HX12.out hg HX12.out.size (fun z hz => (HO0.out.lt z hz).1))
            have HB13 := Lib.hid (HB7.out.trans (HX13.out.mono hsz7))
            have HO9_13 : Hid (w13.ownsRow w7.heap.size 9 1 v9 GV.length (strsV GV)) := Lib.hid (by simpa [strsV] using hown)
            have HK11_13 := Lib.hid (blk_grown HK11_12.out hg (fun h => hne (Option.some.inj h)))
            clear hown hg
            refine ThenB.mk (Cls.of HB13.out) (fun hCw => ?_)
            refine mixB_ch (i := 12) (fuel := 21) (by kernel_rfl) (by kernel_rfl) ?_
            simp only [opsAt, List.map_cons, List.map_nil, List.toList_toArray, List.getD_cons_succ, List.getD_cons_zero]
            go_wp2_with (at_builtin; refine push_at w7.heap.size rfl _ _ 22 9 (.string (bs [])) 16 rfl Tryd.underlying22 (by kernel_rfl) rfl (by decide) _ GV.length _ HO9_13.out (w11.heap.size) 1 [.string (bs oth)] HK11_13.out rfl rfl rfl (by simp [Value.oneCell']) (HX13.out.size) (by omega) ?_; intro v12 w14 hown hg)
            have HX14 := Lib.hid (below_grown HX13.out hg HX13.out.size (fun z hz => (HO9_13.out.lt z hz).1))
            have HB14 := Lib.hid (HB7.out.trans (HX14.out.mono hsz7))
            have hown2 : w14.ownsRow w7.heap.size 9 1 v12 R12.length (strsV R12) := by rw [HR.out]; simpa [strsV] using hown
            obtain ⟨p12, c12, rfl, hcap12, _, hr12⟩ := hasS_ownN (l := R12) hown2
            have HR12 := Lib.hid hr12
            clear hown hown2 hg hr12
            refine ThenB.mk (Cls.of HB14.out) (fun hCw => ?_)
            exact mixB_listed (by kernel_rfl) (JOIN _ _ _ _ w14 ⟨p12, c12, rfl, hcap12, HR12.out, HX14.out⟩)
        · simp only [opsAt, List.map_cons, List.map_nil, List.toList_toArray, List.getD_cons_succ, List.getD_cons_zero]
          go_wp2_with fail
          obtain ⟨w11, hw11⟩ : ∃ W, W = w10.alloc (.cells #[.string (bs oth)] 9) := ⟨_, rfl⟩
          rw [← hw11]
          have hb : Below w10.heap.size w10 w11 := by rw [hw11]; exact (Below.refl _ _).alloc (Nat.le_refl _) _
          have hnew : IsBlk w11 w10.heap.size #[.string (bs oth)] 9 := by rw [hw11]; exact IsBlk.new _ _ _
          clear hw11
          have hge11 : w7.heap.size ≤ w10.heap.size := HX10.out.size
          have hne : w8.heap.size ≠ w10.heap.size := by have := HK7_10.out.lt; omega
          have HX11 := Lib.hid (HX10.out.trans (hb.mono HX10.out.size))
          have HB11 := Lib.hid (HB7.out.trans (HX11.out.mono hsz7))
          have HK7_11 := Lib.hid (HK7_10.out.ext hb)
          clear hb
          have HK11_11 := Lib.hid hnew
          refine ThenB.mk (Cls.of HB11.out) (fun hCw => ?_)
          refine mixB_ch (i := 3) (fuel := 23) (by kernel_rfl) (by kernel_rfl) ?_
          simp only [opsAt, List.map_cons, List.map_nil, List.toList_toArray, List.getD_cons_succ, List.getD_cons_zero]
          go_wp2_with (go_at_call 18; refine (root_made _ l gA tpA tcA w11 (HTA7.out.ext HX11.out)).mono ?_; rintro e' w12 ⟨rfl, hb⟩)
          have HX12 := Lib.hid (HX11.out.trans (hb.mono HX11.out.size))
          have HB12 := Lib.hid (HB7.out.trans (HX12.out.mono hsz7))
          have HK7_12 := Lib.hid (HK7_11.out.ext hb)
          have HK11_12 := Lib.hid (HK11_11.out.ext hb)
          clear hb
          refine ThenB.mk (Cls.of HB12.out) (fun hCw => ?_)
          refine mixB_ch (i := 9) (fuel := 22) (by kernel_rfl) (by kernel_rfl) ?_
          simp only [opsAt, List.map_cons, List.map_nil, List.toList_toArray, List.getD_cons_succ, List.getD_cons_zero]
          have HO0 := Lib.hid (own_lit (cs := []) HK7_12.out hge7 rfl (by decide))
          go_wp2_with (at_builtin; refine push_texts w7.heap.size rfl _ _ rfl (.slice (some ⟨w8.heap.size, 0, none⟩) 0 0) [] HO0.out _ _ _ GV (HRGa7.out.ext HX12.out) hnoneGa rfl rfl (HX12.out.size) (by simp; omega) ?_; intro v9 w13 hown hg)
          have HX13 := Lib.hid (below_grown HX12.out hg HX12.out.size (fun z hz => (HO0.out.lt z hz).1))
          have HB13 := Lib.hid (HB7.out.trans (HX13.out.mono hsz7))
          have HO9_13 : Hid (w13.ownsRow w7.heap.size 9 1 v9 GV.length (strsV GV)) := Lib.hid (by simpa [strsV] using hown)
          have HK11_13 := Lib.hid (blk_grown HK11_12.out hg (fun h => hne (Option.some.inj h)))
          clear hown hg
          refine ThenB.mk (Cls.of HB13.out) (fun hCw => ?_)
          refine mixB_ch (i := 12) (fuel := 21) (by kernel_rfl) (by kernel_rfl) ?_
          simp only [opsAt, List.map_cons, List.map_nil, List.toList_toArray, List.getD_cons_succ, List.getD_cons_zero]
          go_wp2_with (at_builtin; refine push_at w7.heap.size rfl _ _ 22 9 (.string (bs [])) 16 rfl Tryd.underlying22 (by kernel_rfl) rfl (by decide) _ GV.length _ HO9_13.out (w10.heap.size) 1 [.string (bs oth)] HK11_13.out rfl rfl rfl (by simp [Value.oneCell']) (HX13.out.size) (by omega) ?_; intro v12 w14 hown hg)
          have HX14 := Lib.hid (below_grown HX13.out hg HX13.out.size (fun z hz => (HO9_13.out.lt z hz).1))
          have HB14 := Lib.hid (HB7.out.trans (HX14.out.mono hsz7))
          have hown2 : w14.ownsRow w7.heap.size 9 1 v12 R12.length (strsV R12) := by rw [HR.out]; simpa [strsV] using hown
          obtain ⟨p12, c12, rfl, hcap12, _, hr12⟩ := hasS_ownN (l := R12) hown2
          have HR12 := Lib.hid hr12
          clear hown hown2 hg hr12
          refine ThenB.mk (Cls.of HB14.out) (fun hCw => ?_)
          exact mixB_listed (by kernel_rfl) (JOIN _ _ _ _ w14 ⟨p12, c12, rfl, hcap12, HR12.out, HX14.out⟩)
      · simp only [opsAt, List.map_cons, List.map_nil, List.toList_toArray, List.getD_cons_succ, List.getD_cons_zero]
        go_wp2_with fail
        obtain ⟨w10, hw10⟩ : ∃ W, W = w9.alloc (.cells #[.string (bs oth)] 9) := ⟨_, rfl⟩
        rw [← hw10]
        have hb : Below w9.heap.size w9 w10 := by rw [hw10]; exact (Below.refl _ _).alloc (Nat.le_refl _) _
        have hnew : IsBlk w10 w9.heap.size #[.string (bs oth)] 9 := by rw [hw10]; exact IsBlk.new _ _ _
        clear hw10
        have hge11 : w7.heap.size ≤ w9.heap.size := HX9.out.size
        have hne : w8.heap.size ≠ w9.heap.size := by have := HK7_9.out.lt; omega
        have HX10 := Lib.hid (HX9.out.trans (hb.mono HX9.out.size))
        have HB10 := Lib.hid (HB7.out.trans (HX10.out.mono hsz7))
        have HK7_10 := Lib.hid (HK7_9.out.ext hb)
        clear hb
        have HK11_10 := Lib.hid hnew
        refine ThenB.mk (Cls.of HB10.out) (fun hCw => ?_)
        refine mixB_ch (i := 1) (fuel := 24) (by kernel_rfl) (by kernel_rfl) ?_
        simp only [opsAt, List.map_cons, List.map_nil, List.toList_toArray, List.getD_cons_succ, List.getD_cons_zero]
        go_wp2_with (go_at_call 18; refine (root_made _ (l.take m) gU tpU tcU w10 (HTU7.out.ext HX10.out)).mono ?_; rintro e' w11 ⟨rfl, hb⟩)
        have HX11 := Lib.hid (HX10.out.trans (hb.mono HX10.out.size))
        have HB11 := Lib.hid (HB7.out.trans (HX11.out.mono hsz7))
        have HK7_11 := Lib.hid (HK7_10.out.ext hb)
        have HK11_11 := Lib.hid (HK11_10.out.ext hb)
        clear hb
        refine ThenB.mk (Cls.of HB11.out) (fun hCw => ?_)
        refine mixB_ch (i := 3) (fuel := 23) (by kernel_rfl) (by kernel_rfl) ?_
        simp only [opsAt, List.map_cons, List.map_nil, List.toList_toArray, List.getD_cons_succ, List.getD_cons_zero]
        go_wp2_with (go_at_call 18; refine (root_made _ l gA tpA tcA w11 (HTA7.out.ext HX11.out)).mono ?_; rintro e' w12 ⟨rfl, hb⟩)
        have HX12 := Lib.hid (HX11.out.trans (hb.mono HX11.out.size))
        have HB12 := Lib.hid (HB7.out.trans (HX12.out.mono hsz7))
        have HK7_12 := Lib.hid (HK7_11.out.ext hb)
        have HK11_12 := Lib.hid (HK11_11.out.ext hb)
        clear hb
        refine ThenB.mk (Cls.of HB12.out) (fun hCw => ?_)
        refine mixB_ch (i := 9) (fuel := 22) (by kernel_rfl) (by kernel_rfl) ?_
        simp only [opsAt, List.map_cons, List.map_nil, List.toList_toArray, List.getD_cons_succ, List.getD_cons_zero]
        have HO0 := Lib.hid (own_lit (cs := []) HK7_12.out hge7 rfl (by decide))
        go_wp2_with (at_builtin; refine push_texts w7.heap.size rfl _ _ rfl (.slice (some ⟨w8.heap.size, 0, none⟩) 0 0) [] HO0.out _ _ _ GV (HRGa7.out.ext HX12.out) hnoneGa rfl rfl (HX12.out.size) (by simp; omega) ?_; intro v9 w13 hown hg)
        have HX13 := Lib.hid (below_grown HX12.out hg HX12.out.size (fun z hz => (HO0.out.lt z hz).1))
        have HB13 := Lib.hid (HB7.out.trans (HX13.out.mono hsz7))
        have HO9_13 : Hid (w13.ownsRow w7.heap.size 9 1 v9 GV.length (strsV GV)) := Lib.hid (by simpa [strsV] using hown)
        have HK11_13 := Lib.hid (blk_grown HK11_12.out hg (fun h => hne (Option.some.inj h)))
        clear hown hg
        refine ThenB.mk (Cls.of HB13.out) (fun hCw => ?_)
        refine mixB_ch (i := 12) (fuel := 21) (by kernel_rfl) (by kernel_rfl) ?_
        simp only [opsAt, List.map_cons, List.map_nil, List.toList_toArray, List.getD_cons_succ, List.getD_cons_zero]
        go_wp2_with (at_builtin; refine push_at w7.heap.size rfl _ _ 22 9 (.string (bs [])) 16 rfl Tryd.underlying22 (by kernel_rfl) rfl (by decide) _ GV.length _ HO9_13.out (w9.heap.size) 1 [.string (bs oth)] HK11_13.out rfl rfl rfl (by simp [Value.oneCell']) (HX13.out.size) (by omega) ?_; intro v12 w14 hown hg)
        have HX14 := Lib.hid (below_grown HX13.out hg HX13.out.size (fun z hz => (HO9_13.out.lt z hz).1))
        have HB14 := Lib.hid (HB7.out.trans (HX14.out.mono hsz7))
        have hown2 : w14.ownsRow w7.heap.size 9 1 v12 R12.length (strsV R12) := by rw [HR.out]; simpa [strsV] using hown
        obtain ⟨p12, c12, rfl, hcap12, _, hr12⟩ := hasS_ownN (l := R12) hown2
        have HR12 := Lib.hid hr12
        clear hown hown2 hg hr12
        refine ThenB.mk (Cls.of HB14.out) (fun hCw => ?_)
        exact mixB_listed (by kernel_rfl) (JOIN _ _ _ _ w14 ⟨p12, c12, rfl, hcap12, HR12.out, HX14.out⟩)
    · simp only [opsAt, List.map_cons, List.map_nil, List.toList_toArray, List.getD_cons_succ, List.getD_cons_zero]
      go_wp2_with fail
      obtain ⟨w9, hw9⟩ : ∃ W, W = w8.alloc (.cells #[.string (bs oth)] 9) := ⟨_, rfl⟩
      rw [← hw9]
      have hb : Below w8.heap.size w8 w9 := by rw [hw9]; exact (Below.refl _ _).alloc (Nat.le_refl _) _
      have hnew : IsBlk w9 w8.heap.size #[.string (bs oth)] 9 := by rw [hw9]; exact IsBlk.new _ _ _
      clear hw9
      have hge11 : w7.heap.size ≤ w8.heap.size := HX8.out.size
      have HX9 := Lib.hid (HX8.out.trans (hb.mono HX8.out.size))
      have HB9 := Lib.hid (HB7.out.trans (HX9.out.mono hsz7))
      clear hb
      have HK11_9 := Lib.hid hnew
      refine ThenB.mk (Cls.of HB9.out) (fun hCw => ?_)
      refine mixB_br (i := 1) (j := 7) (fuel := 25) (by kernel_rfl) (by kernel_rfl) ?_ ?_
      · simp only [opsAt, List.map_cons, List.map_nil, List.toList_toArray, List.getD_cons_succ, List.getD_cons_zero]
        go_wp2_with (go_at_call 18; refine (root_made _ (l.take m) gU tpU tcU w9 (HTU7.out.ext HX9.out)).mono ?_; rintro e' w10 ⟨rfl, hb⟩)
        have HX10 := Lib.hid (HX9.out.trans (hb.mono HX9.out.size))
        have HB10 := Lib.hid (HB7.out.trans (HX10.out.mono hsz7))
        have HK11_10 := Lib.hid (HK11_9.out.ext hb)
        clear hb
        refine ThenB.mk (Cls.of HB10.out) (fun hCw => ?_)
        refine mixB_br (i := 3) (j := 7) (fuel := 24) (by kernel_rfl) (by kernel_rfl) ?_ ?_
        · simp only [opsAt, List.map_cons, List.map_nil, List.toList_toArray, List.getD_cons_succ, List.getD_cons_zero]
          go_wp2_with (go_at_call 18; refine (root_made _ l gA tpA tcA w10 (HTA7.out.ext HX10.out)).mono ?_; rintro e' w11 ⟨rfl, hb⟩)
          have HX11 := Lib.hid (HX10.out.trans (hb.mono HX10.out.size))
          have HB11 := Lib.hid (HB7.out.trans (HX11.out.mono hsz7))
          have HK11_11 := Lib.hid (HK11_10.out.ext hb)
          clear hb
          refine ThenB.mk (Cls.of HB11.out) (fun hCw => ?_)
          refine mixB_ch (i := 7) (fuel := 23) (by kernel_rfl) (by kernel_rfl) ?_
          simp only [opsAt, List.map_cons, List.map_nil, List.toList_toArray, List.getD_cons_succ, List.getD_cons_zero]
          go_wp2_with fail
          obtain ⟨w12, hw12⟩ : ∃ W, W = w11.alloc (.cells #[] 9) := ⟨_, rfl⟩
          rw [← hw12]
          have hb : Below w11.heap.size w11 w12 := by rw [hw12]; exact (Below.refl _ _).alloc (Nat.le_refl _) _
          have hnew : IsBlk w12 w11.heap.size #[] 9 := by rw [hw12]; exact IsBlk.new _ _ _
          clear hw12
          have hge7 : w7.heap.size ≤ w11.heap.size := HX11.out.size
          have hne : w11.heap.size ≠ w8.heap.size := by have := HK11_11.out.lt; omega
          have HX12 := Lib.hid (HX11.out.trans (hb.mono HX11.out.size))
          have HB12 := Lib.hid (HB7.out.trans (HX12.out.mono hsz7))
          have HK11_12 := Lib.hid (HK11_11.out.ext hb)
          clear hb
          have HK7_12 := Lib.hid hnew
          refine ThenB.mk (Cls.of HB12.out) (fun hCw => ?_)
          refine mixB_ch (i := 9) (fuel := 22) (by kernel_rfl) (by kernel_rfl) ?_
          simp only [opsAt, List.map_cons, List.map_nil, List.toList_toArray, List.getD_cons_succ, List.getD_cons_zero]
          have HO0 := Lib.hid (own_lit (cs := []) HK7_12.out hge7 rfl (by decide))
          go_wp2_with (at_builtin; refine push_texts w7.heap.size rfl _ _ rfl (.slice (some ⟨w11.heap.size, 0, none⟩) 0 0) [] HO0.out _ _ _ GV (HRGa7.out.ext HX12.out) hnoneGa rfl rfl (HX12.out.size) (by simp; omega) ?_; intro v9 w13 hown hg)
          have HX13 := Lib.hid (below_grown HX12.out hg HX12.out.size (fun z hz => (HO0.out.lt z hz).1))
          have HB13 := Lib.hid (HB7.out.trans (HX13.out.mono hsz7))
          have HO9_13 : Hid (w13.ownsRow w7.heap.size 9 1 v9 GV.length (strsV GV)) := Lib.hid (by simpa [strsV] using hown)
          have HK11_13 := Lib.hid (blk_grown HK11_12.out hg (fun h => hne (Option.some.inj h)))
          clear hown hg
          refine ThenB.mk (Cls.of HB13.out) (fun hCw => ?_)
          refine mixB_ch (i := 12) (fuel := 21) (by kernel_rfl) (by kernel_rfl) ?_
          simp only [opsAt, List.map_cons, List.map_nil, List.toList_toArray, List.getD_cons_succ, List.getD_cons_zero]
          go_wp2_with (at_builtin; refine push_at w7.heap.size rfl _ _ 22 9 (.string (bs [])) 16 rfl Tryd.underlying22 (by kernel_rfl) rfl (by decide) _ GV.length _ HO9_13.out (w8.heap.size) 1 [.string (bs oth)] HK11_13.out rfl rfl rfl (by simp [Value.oneCell']) (HX13.out.size) (by omega) ?_; intro v12 w14 hown hg)
          have HX14 := Lib.hid (below_grown HX13.out hg HX13.out.size (fun z hz => (HO9_13.out.lt z hz).1))
          have HB14 := Lib.hid (HB7.out.trans (HX14.out.mono hsz7))
          have hown2 : w14.ownsRow w7.heap.size 9 1 v12 R12.length (strsV R12) := by rw [HR.out]; simpa [strsV] using hown
          obtain ⟨p12, c12, rfl, hcap12, _, hr12⟩ := hasS_ownN (l := R12) hown2
          have HR12 := Lib.hid hr12
          clear hown hown2 hg hr12
          refine ThenB.mk (Cls.of HB14.out) (fun hCw => ?_)
          exact mixB_listed (by kernel_rfl) (JOIN _ _ _ _ w14 ⟨p12, c12, rfl, hcap12, HR12.out, HX14.out⟩)
        · simp only [opsAt, List.map_cons, List.map_nil, List.toList_toArray, List.getD_cons_succ, List.getD_cons_zero]
          go_wp2_with fail
          obtain ⟨w11, hw11⟩ : ∃ W, W = w10.alloc (.cells #[] 9) := ⟨_, rfl⟩
          rw [← hw11]
          have hb : Below w10.heap.size w10 w11 := by rw [hw11]; exact (Below.refl _ _).alloc (Nat.le_refl _) _
          have hnew : IsBlk w11 w10.heap.size #[] 9 := by rw [hw11]; exact IsBlk.new _ _ _
          clear hw11
          have hge7 : w7.heap.size ≤ w10.heap.size := HX10.out.size
          have hne : w10.heap.size ≠ w8.heap.size := by have := HK11_10.out.lt; omega
          have HX11 := Lib.hid (HX10.out.trans (hb.mono HX10.out.size))
          have HB11 := Lib.hid (HB7.out.trans (HX11.out.mono hsz7))
          have HK11_11 := Lib.hid (HK11_10.out.ext hb)
          clear hb
          have HK7_11 := Lib.hid hnew
          refine ThenB.mk (Cls.of HB11.out) (fun hCw => ?_)
          refine mixB_ch (i := 3) (fuel := 23) (by kernel_rfl) (by kernel_rfl) ?_
          simp only [opsAt, List.map_cons, List.map_nil, List.toList_toArray, List.getD_cons_succ, List.getD_cons_zero]
          go_wp2_with (go_at_call 18; refine (root_made _ l gA tpA tcA w11 (HTA7.out.ext HX11.out)).mono ?_; rintro e' w12 ⟨rfl, hb⟩)
          have HX12 := Lib.hid (HX11.out.trans (hb.mono HX11.out.size))
          have HB12 := Lib.hid (HB7.out.trans (HX12.out.mono hsz7))
          have HK7_12 := Lib.hid (HK7_11.out.ext hb)
          have HK11_12 := Lib.hid (HK11_11.out.ext hb)
          clear hb
          refine ThenB.mk (Cls.of HB12.out) (fun hCw => ?_)
          refine mixB_ch (i := 9) (fuel := 22) (by kernel_rfl) (by kernel_rfl) ?_
          simp only [opsAt, List.map_cons, List.map_nil, List.toList_toArray, List.getD_cons_succ, List.getD_cons_zero]
          have HO0 := Lib.hid (own_lit (cs := []) HK7_12.out hge7 rfl (by decide))
          go_wp2_with (at_builtin; refine push_texts w7.heap.size rfl _ _ rfl (.slice (some ⟨w10.heap.size, 0, none⟩) 0 0) [] HO0.out _ _ _ GV (HRGa7.out.ext HX12.out) hnoneGa rfl rfl (HX12.out.size) (by simp; omega) ?_; intro v9 w13 hown hg)
          have HX13 := Lib.hid (below_grown HX12.out hg HX12.out.size (fun z hz => (HO0.out.lt z hz).1))
          have HB13 := Lib.hid (HB7.out.trans (HX13.out.mono hsz7))
          have HO9_13 : Hid (w13.ownsRow w7.heap.size 9 1 v9 GV.length (strsV GV)) := Lib.hid (by simpa [strsV] using hown)
          have HK11_13 := Lib.hid (blk_grown HK11_12.out hg (fun h => hne (Option.some.inj h)))
          clear hown hg
          refine ThenB.mk (Cls.of HB13.out) (fun hCw => ?_)
          refine mixB_ch (i := 12) (fuel := 21) (by kernel_rfl) (by kernel_rfl) ?_
          simp only [opsAt, List.map_cons, List.map_nil, List.toList_toArray, List.getD_cons_succ, List.getD_cons_zero]
          go_wp2_with (at_builtin; refine push_at w7.heap.size rfl _ _ 22 9 (.string (bs [])) 16 rfl Tryd.underlying22 (by kernel_rfl) rfl (by decide) _ GV.length _ HO9_13.out (w8.heap.size) 1 [.string (bs oth)] HK11_13.out rfl rfl rfl (by simp [Value.oneCell']) (HX13.out.size) (by omega) ?_; intro v12 w14 hown hg)
          have HX14 := Lib.hid (below_grown HX13.out hg HX13.out.size (fun z hz => (HO9_13.out.lt z hz).1))
          have HB14 := Lib.hid (HB7.out.trans (HX14.out.mono hsz7))
          have hown2 : w14.ownsRow w7.heap.size 9 1 v12 R12.length (strsV R12) := by rw [HR.out]; simpa [strsV] using hown
          obtain ⟨p12, c12, rfl, hcap12, _, hr12⟩ := hasS_ownN (l := R12) hown2
          have HR12 := Lib.hid hr12
          clear hown hown2 hg hr12
          refine ThenB.mk (Cls.of HB14.out) (fun hCw => ?_)
          exact mixB_listed (by kernel_rfl) (JOIN _ _ _ _ w14 ⟨p12, c12, rfl, hcap12, HR12.out, HX14.out⟩)
      · simp only [opsAt, List.map_cons, List.map_nil, List.toList_toArray, List.getD_cons_succ, List.getD_cons_zero]
        go_wp2_with fail
        obtain ⟨w10, hw10⟩ : ∃ W, W = w9.alloc (.cells #[] 9) := ⟨_, rfl⟩
        rw [← hw10]
        have hb : Below w9.heap.size w9 w10 := by rw [hw10]; exact (Below.refl _ _).alloc (Nat.le_refl _) _
        have hnew : IsBlk w10 w9.heap.size #[] 9 := by rw [hw10]; exact IsBlk.new _ _ _
        clear hw10
        have hge7 : w7.heap.size ≤ w9.heap.size := HX9.out.size
        have hne : w9.heap.size ≠ w8.heap.size := by have := HK11_9.out.lt; omega
        have HX10 := Lib.hid (HX9.out.trans (hb.mono HX9.out.size))
        have HB10 := Lib.hid (HB7.out.trans (HX10.out.mono hsz7))
        have HK11_10 := Lib.hid (HK11_9.out.ext hb)
        clear hb
        have HK7_10 := Lib.hid hnew
        refine ThenB.mk (Cls.of HB10.out) (fun hCw => ?_)
        refine mixB_ch (i := 1) (fuel := 24) (by kernel_rfl) (by kernel_rfl) ?_
        simp only [opsAt, List.map_cons, List.map_nil, List.toList_toArray, List.getD_cons_succ, List.getD_cons_zero]
        go_wp2_with (go_at_call 18; refine (root_made _ (l.take m) gU tpU tcU w10 (HTU7.out.ext HX10.out)).mono ?_; rintro e' w11 ⟨rfl, hb⟩)
        have HX11 := Lib.hid (HX10.out.trans (hb.mono HX10.out.size))
        have HB11 := Lib.hid (HB7.out.trans (HX11.out.mono hsz7))
        have HK7_11 := Lib.hid (HK7_10.out.ext hb)
        have HK11_11 := Lib.hid (HK11_10.out.ext hb)
        clear hb
        refine ThenB.mk (Cls.of HB11.out) (fun hCw => ?_)
        refine mixB_ch (i := 3) (fuel := 23) (by kernel_rfl) (by kernel_rfl) ?_
        simp only [opsAt, List.map_cons, List.map_nil, List.toList_toArray, List.getD_cons_succ, List.getD_cons_zero]
        go_wp2_with (go_at_call 18; refine (root_made _ l gA tpA tcA w11 (HTA7.out.ext HX11.out)).mono ?_; rintro e' w12 ⟨rfl, hb⟩)
        have HX12 := Lib.hid (HX11.out.trans (hb.mono HX11.out.size))
        have HB12 := Lib.hid (HB7.out.trans (HX12.out.mono hsz7))
        have HK7_12 := Lib.hid (HK7_11.out.ext hb)
        have HK11_12 := Lib.hid (HK11_11.out.ext hb)
        clear hb
        refine ThenB.mk (Cls.of HB12.out) (fun hCw => ?_)
        refine mixB_ch (i := 9) (fuel := 22) (by kernel_rfl) (by kernel_rfl) ?_
        simp only [opsAt, List.map_cons, List.map_nil, List.toList_toArray, List.getD_cons_succ, List.getD_cons_zero]
        have HO0 := Lib.hid (own_lit (cs := []) HK7_12.out hge7 rfl (by decide))
        go_wp2_with (at_builtin; refine push_texts w7.heap.size rfl _ _ rfl (.slice (some ⟨w9.heap.size, 0, none⟩) 0 0) [] HO0.out _ _ _ GV (HRGa7.out.ext HX12.out) hnoneGa rfl rfl (HX12.out.size) (by simp; omega) ?_; intro v9 w13 hown hg)
        have HX13 := Lib.hid (below_grown HX12.out hg HX12.out.size (fun z hz => (HO0.out.lt z hz).1))
        have HB13 := Lib.hid (HB7.out.trans (HX13.out.mono hsz7))
        have HO9_13 : Hid (w13.ownsRow w7.heap.size 9 1 v9 GV.length (strsV GV)) := Lib.hid (by simpa [strsV] using hown)
        have HK11_13 := Lib.hid (blk_grown HK11_12.out hg (fun h => hne (Option.some.inj h)))
        clear hown hg
        refine ThenB.mk (Cls.of HB13.out) (fun hCw => ?_)
        refine mixB_ch (i := 12) (fuel := 21) (by kernel_rfl) (by kernel_rfl) ?_
        simp only [opsAt, List.map_cons, List.map_nil, List.toList_toArray, List.getD_cons_succ, List.getD_cons_zero]
        go_wp2_with (at_builtin; refine push_at w7.heap.size rfl _ _ 22 9 (.string (bs [])) 16 rfl Tryd.underlying22 (by kernel_rfl) rfl (by decide) _ GV.length _ HO9_13.out (w8.heap.size) 1 [.string (bs oth)] HK11_13.out rfl rfl rfl (by simp [Value.oneCell']) (HX13.out.size) (by omega) ?_; intro v12 w14 hown hg)
        have HX14 := Lib.hid (below_grown HX13.out hg HX13.out.size (fun z hz => (HO9_13.out.lt z hz).1))
        have HB14 := Lib.hid (HB7.out.trans (HX14.out.mono hsz7))
        have hown2 : w14.ownsRow w7.heap.size 9 1 v12 R12.length (strsV R12) := by rw [HR.out]; simpa [strsV] using hown
        obtain ⟨p12, c12, rfl, hcap12, _, hr12⟩ := hasS_ownN (l := R12) hown2
        have HR12 := Lib.hid hr12
        clear hown hown2 hg hr12
        refine ThenB.mk (Cls.of HB14.out) (fun hCw => ?_)
        exact mixB_listed (by kernel_rfl) (JOIN _ _ _ _ w14 ⟨p12, c12, rfl, hcap12, HR12.out, HX14.out⟩)
end Go.Proofs.YtfnlehnhcekpkaaDoor
