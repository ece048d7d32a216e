/- MerkleTrees: any texts have the root, the paths and growths that the document says. Conditions: at most 2^40 texts, none longer than 2^40 bytes; the tables read as the texts lay them. -/
import Derived.Test.YtfnlehnhcekpkaaDoorMkTot
set_option linter.unusedVariables false
set_option linter.unusedSimpArgs false
namespace Go.Proofs.YtfnlehnhcekpkaaDoor
open Go Go.RowKit Go.BigFrame
set_option maxRecDepth 100000

theorem pathV_length {l : List (List UInt8)} (h : l.length ≤ 1099511627776) (i : Int) : (pathV l i).length ≤ l.length := by
  unfold pathV
  split
  · simp
  · rw [List.length_reverse]
    exact pathD_length l _ 0 _ _ (Nat.le_refl _) h
theorem growV_length {l : List (List UInt8)} (h : l.length ≤ 1099511627776) (i : Int) : (growV l i).length ≤ l.length := by
  unfold growV
  split
  · simp
  · rename_i hi
    rw [List.length_reverse]
    exact growD_length l _ 0 _ _ (Nat.le_refl _) h (by omega) (by omega)
set_option maxHeartbeats 8000000 in
theorem trees_any (l : List (List UInt8)) (i : Int) (S : Nat → Prop) (p : Option Addr) (cap : Nat) (w : World) (hK : Ks w) (hT : TzT w) (htg : 1 < w.heap.size) (hcap : l.length ≤ cap) (hs : HasS S w p l) (hll : l.length ≤ 1099511627776) (hts : ∀ s ∈ l, s.length ≤ 1099511627776) :
    Calls Tryd.prog 7 #[.slice p l.length cap, .int .i64 i] w fun e' w' => e' = .returned (.bool true) ∧ Below w.heap.size w w' := by
  have hkl := hK.lt
  have HL := Lib.hid (lives_any w hK hT htg)
  have HK := Lib.hid hK
  have HTS := Lib.hid hts
  have HARG := Lib.hid hs
  clear hK hT hs hts
  go_enter Tryd.func7, Tryd.ntmps7
  go_wp2_with fail
  go_at_call 15
  refine HL.out.mono ?_
  rintro e' w1 ⟨rfl, hb⟩
  have HB1 := Lib.hid hb
  have hsz1 := hb.size
  clear hb
  by_cases hmany : 1024 < l.length
  · have hmI : (1024 : Int) < (l.length : Int) := by omega
    have h0 : (bs []).toList.isEmpty = true := by rw [tl_bs]; rfl
    go_wp2_with fail
    go_at_call 17
    refine (new_many p l.length cap w1 hmany).mono ?_
    rintro e' w2 ⟨rfl, rfl⟩
    go_wp2_with fail
    go_at_call 24
    refine (size_nil w1).mono ?_
    rintro e' w2 ⟨rfl, rfl⟩
    go_wp2_with fail
    go_at_call 18
    refine (root_nil w1).mono ?_
    rintro e' w2 ⟨rfl, rfl⟩
    go_wp2
    go_ret
    exact ⟨rfl, HB1.out⟩
  have hfew : l.length ≤ 1024 := by omega
  have hfI : (l.length : Int) ≤ 1024 := by omega
  go_wp2_with fail
  go_at_call 17
  refine (new_any l S p cap w1 (HARG.out.ext HB1.out) hfew).mono ?_
  rintro e' w2 ⟨g, tp, tc, rfl, htr, hb⟩
  have hgl : w1.heap.size ≤ g := by
    rcases htr with ⟨b, L, h, _⟩ | ⟨h, _⟩
    · exact h
    · exact h
  have HB2 := Lib.hid (HB1.out.trans (hb.mono hsz1))
  have htr2 : TreeIn (fun x => w.heap.size ≤ x) l g tp tc w2 := htr.ext_to (fun x hx _ => by omega) (fun _ _ _ => rfl)
  obtain ⟨_, _, _, _, hblk⟩ := htr2.block
  have hg2 := hblk.lt
  have HTR2 := Lib.hid htr2
  have hsz2 := HB2.out.size
  clear hb htr htr2 hblk
  obtain ⟨PV, hPV⟩ : ∃ PV, PV = pathV l i := ⟨_, rfl⟩
  obtain ⟨GV, hGV⟩ : ∃ GV, GV = growV l i := ⟨_, rfl⟩
  obtain ⟨PE, hPE⟩ : ∃ PE, PE = pathE l i := ⟨_, rfl⟩
  obtain ⟨GE, hGE⟩ : ∃ GE, GE = growE l i := ⟨_, rfl⟩
  have hPl : PV.length ≤ 1099511627776 := by have := pathV_length (l := l) (by omega) i; rw [hPV]; omega
  have hGl : GV.length ≤ 1099511627776 := by have := growV_length (l := l) (by omega) i; rw [hGV]; omega
  have HPATH := Lib.hid (fun w' (hb : Below w.heap.size w w') (ht : TreeIn (fun x => w.heap.size ≤ x) l g tp tc w') (hz : w.heap.size ≤ w'.heap.size) => path_tot (fun x => w.heap.size ≤ x) l g tp tc i w' (HK.out.ext hb) (by omega) (by omega) HTS.out ht (fun x hx => by omega))
  have HGROW := Lib.hid (fun w' (hb : Below w.heap.size w w') (ht : TreeIn (fun x => w.heap.size ≤ x) l g tp tc w') (hz : w.heap.size ≤ w'.heap.size) => growth_tot (fun x => w.heap.size ≤ x) l g tp tc i w' (HK.out.ext hb) (by omega) (by omega) HTS.out ht (fun x hx => by omega))
  have HRPATH := Lib.hid (fun w' (hb : Below w.heap.size w w') => rpath_tot l i S p cap w' hcap (by omega) (HARG.out.ext hb) HTS.out)
  have HRGROW := Lib.hid (fun w' (hb : Below w.heap.size w w') => rgrowth_tot l i S p cap w' hcap (by omega) (HARG.out.ext hb) HTS.out)
  rw [← hPV, ← hPE] at HPATH HRPATH
  rw [← hGV, ← hGE] at HGROW HRGROW
  clear hPV hGV hPE hGE
  go_wp2_with fail
  go_at_call 19
  refine (HPATH.out w2 HB2.out HTR2.out hsz2).mono ?_
  rintro e' w3 ⟨v, rfl, hown, hk, hb, htr⟩
  obtain ⟨pRa, cRa, rfl, hrow⟩ := hasS_own (l := PV) hown
  have HB3 := Lib.hid (HB2.out.trans (hb.mono (by omega)))
  have HTR3 := Lib.hid htr
  have hg3 : g < w3.heap.size := by have := hk.1; omega
  have hsz3 := HB3.out.size
  have HRa3 := Lib.hid hrow
  clear hown hk hb htr hrow
  go_wp2_with fail
  go_at_call 20
  refine (HRPATH.out w3 HB3.out).mono ?_
  rintro e' w4 ⟨v, rfl, hown, hb⟩
  obtain ⟨pRb, cRb, rfl, hrow⟩ := hasS_own (l := PV) hown
  have HB4 := Lib.hid (HB3.out.trans (hb.mono hsz3))
  have HTR4 := Lib.hid (HTR3.out.ext hb)
  have HRa4 := Lib.hid (HRa3.out.ext hb)
  have hg4 : g < w4.heap.size := by have := hb.size; omega
  have hsz4 := HB4.out.size
  have HRb4 := Lib.hid hrow
  clear hown hb hrow
  go_wp2_with fail
  go_at_call 25
  refine (HGROW.out w4 HB4.out HTR4.out hsz4).mono ?_
  rintro e' w5 ⟨v, rfl, hown, hk, hb, htr⟩
  obtain ⟨pRc, cRc, rfl, hrow⟩ := hasS_own (l := GV) hown
  have HB5 := Lib.hid (HB4.out.trans (hb.mono (by omega)))
  have HTR5 := Lib.hid htr
  have HRa5 := Lib.hid (HRa4.out.ext_to (fun _ h => h) (fun x hx hlt => hk.2 x hlt (by omega)))
  have HRb5 := Lib.hid (HRb4.out.ext_to (fun _ h => h) (fun x hx hlt => hk.2 x hlt (by omega)))
  have hg5 : g < w5.heap.size := by have := hk.1; omega
  have hsz5 := HB5.out.size
  have HRc5 := Lib.hid hrow
  clear hown hk hb htr hrow
  go_wp2_with fail
  go_at_call 26
  refine (HRGROW.out w5 HB5.out).mono ?_
  rintro e' w6 ⟨v, rfl, hown, hb⟩
  obtain ⟨pRd, cRd, rfl, hrow⟩ := hasS_own (l := GV) hown
  have HB6 := Lib.hid (HB5.out.trans (hb.mono hsz5))
  have HTR6 := Lib.hid (HTR5.out.ext hb)
  have HRa6 := Lib.hid (HRa5.out.ext hb)
  have HRb6 := Lib.hid (HRb5.out.ext hb)
  have HRc6 := Lib.hid (HRc5.out.ext hb)
  have hg6 : g < w6.heap.size := by have := hb.size; omega
  have hsz6 := HB6.out.size
  have HRd6 := Lib.hid hrow
  clear hown hb hrow
  go_wp2_with fail
  go_at_call 24
  refine (size_any _ _ g tp tc w6 HTR6.out).mono ?_
  rintro e' wz ⟨rfl, rfl⟩
  go_wp2_with fail
  go_at_call 18
  refine (root_any (fun x => w.heap.size ≤ x) l g tp tc w6 (HK.out.ext HB6.out) (by omega) (by omega) HTS.out HTR6.out (fun x hx => by omega)).mono ?_
  rintro e' w7 ⟨rfl, b, hk, hb, L', hm⟩
  have htr : TreeIn (fun x => w.heap.size ≤ x) l g tp tc w7 := .inl ⟨b, L', hm⟩
  have HB7 := Lib.hid (HB6.out.trans (hb.mono (by omega)))
  have HTR7 := Lib.hid htr
  have HRa7 := Lib.hid (HRa6.out.ext_to (fun _ h => h) (fun x hx hlt => hk.2 x hlt (by omega)))
  have HRb7 := Lib.hid (HRb6.out.ext_to (fun _ h => h) (fun x hx hlt => hk.2 x hlt (by omega)))
  have HRc7 := Lib.hid (HRc6.out.ext_to (fun _ h => h) (fun x hx hlt => hk.2 x hlt (by omega)))
  have HRd7 := Lib.hid (HRd6.out.ext_to (fun _ h => h) (fun x hx hlt => hk.2 x hlt (by omega)))
  have hg7 : g < w7.heap.size := by have := hk.1; omega
  have hsz7 := HB7.out.size
  clear hk hb hm htr
  go_wp2_with fail
  go_at_call 27
  refine (rroot_any l S p cap w7 hcap (by omega) (HARG.out.ext HB7.out) HTS.out).mono ?_
  rintro e' w8 ⟨rfl, hb⟩
  have HB8 := Lib.hid (HB7.out.trans (hb.mono hsz7))
  have HTR8 := Lib.hid (HTR7.out.ext hb)
  have HRa8 := Lib.hid (HRa7.out.ext hb)
  have HRb8 := Lib.hid (HRb7.out.ext hb)
  have HRc8 := Lib.hid (HRc7.out.ext hb)
  have HRd8 := Lib.hid (HRd7.out.ext hb)
  have hg8 : g < w8.heap.size := by have := hb.size; omega
  have hsz8 := HB8.out.size
  clear hb
  have hself : ((bs (rootL l)).toList == (bs (rootL l)).toList) = true := by simp
  go_wp2_with fail
  go_at_call 16
  refine (same_any PV PV _ _ pRa pRb cRa cRb w8 HRa8.out HRb8.out hPl hPl).mono ?_
  rintro e' w9 ⟨rfl, hb⟩
  rw [decide_eq_true rfl]
  have HB9 := Lib.hid (HB8.out.trans (hb.mono hsz8))
  have HTR9 := Lib.hid (HTR8.out.ext hb)
  have HRa9 := Lib.hid (HRa8.out.ext hb)
  have HRb9 := Lib.hid (HRb8.out.ext hb)
  have HRc9 := Lib.hid (HRc8.out.ext hb)
  have HRd9 := Lib.hid (HRd8.out.ext hb)
  have hg9 : g < w9.heap.size := by have := hb.size; omega
  have hsz9 := HB9.out.size
  clear hb
  go_wp2_with fail
  go_at_call 16
  refine (same_any GV GV _ _ pRc pRd cRc cRd w9 HRc9.out HRd9.out hGl hGl).mono ?_
  rintro e' w10 ⟨rfl, hb⟩
  rw [decide_eq_true rfl]
  have HB10 := Lib.hid (HB9.out.trans (hb.mono hsz9))
  have HTR10 := Lib.hid (HTR9.out.ext hb)
  have HRa10 := Lib.hid (HRa9.out.ext hb)
  have HRb10 := Lib.hid (HRb9.out.ext hb)
  have HRc10 := Lib.hid (HRc9.out.ext hb)
  have HRd10 := Lib.hid (HRd9.out.ext hb)
  have hg10 : g < w10.heap.size := by have := hb.size; omega
  have hsz10 := HB10.out.size
  clear hb
  go_wp2
  go_ret
  exact ⟨rfl, HB10.out⟩
end Go.Proofs.YtfnlehnhcekpkaaDoor
