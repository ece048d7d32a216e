/- MerklePeaks: any peaks grow by any text, and have the top, that the document says. Conditions: peaks' texts and the text no longer than 2^40 bytes; the tables read as the texts lay them. -/
import Derived.Test.YtfnlehnhcekpkaaDoorMkZ
import Derived.Test.YtfnlehnhcekpkaaDoorMkL
set_option linter.unusedVariables false
set_option linter.unusedSimpArgs false
namespace Go.Proofs.YtfnlehnhcekpkaaDoor
open Go Go.RowKit Go.BigFrame
set_option maxRecDepth 100000

def topS (c : Int) (tops : List (List UInt8)) : List UInt8 := if peaksB c tops = false then [] else if c = 0 then shaL [] else topL tops
def topE (c : Int) (tops : List (List UInt8)) : Int := if peaksB c tops = false then 6 else 0
theorem TopPost.flat {c : Int} {tops : List (List UInt8)} {w w' : World} {e' : Ending} (h : TopPost c tops w e' w') : e' = .returned (.tuple #[.string (bs (topS c tops)), .int .i64 (topE c tops)]) ∧ Below w.heap.size w w' := by
  obtain ⟨rfl, hb⟩ := h
  refine ⟨?_, hb⟩
  unfold topS topE
  by_cases h1 : peaksB c tops = false
  · rw [if_pos h1, if_pos h1, if_pos h1]
  · rw [if_neg h1, if_neg h1, if_neg h1]
    by_cases h2 : c = 0
    · rw [if_pos h2, if_pos h2]
    · rw [if_neg h2, if_neg h2]
theorem addT_length_le (c : Int) (tops : List (List UInt8)) (s : List UInt8) : (addT c tops s).length ≤ tops.length + 1 := by
  unfold addT
  split
  · simp
  · split
    · simp
    · unfold addL
      rw [List.length_append, List.length_take]
      simp
set_option maxHeartbeats 8000000 in
theorem mpeaks_any (c : Int) (tops : List (List UInt8)) (s : List UInt8) (S : Nat → Prop) (p : Option Addr) (cap : Nat) (w : World) (hK : Ks w) (hT : TzT w) (htg : 1 < w.heap.size) (hsl : s.length ≤ 1099511627776) (hcap : tops.length ≤ cap) (hnone : p = none → cap = 0) (hs : HasS S w p tops) (hn : tops.length ≤ 1048576) (hts : ∀ s ∈ tops, s.length ≤ 1099511627776) :
    Calls Tryd.prog 3 #[.agg #[.int .i64 c, .slice p tops.length cap], .string (bs s)] w fun e' w' => e' = .returned (.bool true) ∧ Below w.heap.size w w' := by
  have hbw : Below w.heap.size w (w.alloc (.cells #[.int .i64 c, .slice p tops.length cap] 24)) := (Below.refl _ _).alloc (Nat.le_refl _) _
  have hW : IsBlk (w.alloc (.cells #[.int .i64 c, .slice p tops.length cap] 24)) w.heap.size #[.int .i64 c, .slice p tops.length cap] 24 := IsBlk.new _ _ _
  have hadd := (fun w' (hb : Below w.heap.size w w') => add_any c tops s S p cap w' (hK.ext hb) (TzT.ext hb hT htg) (by have := hb.size; omega) hsl hcap (hs.ext hb) (by omega) hts)
  have hradd := (fun w' (hb : Below w.heap.size w w') => radd_any c tops s S p cap w' hsl hnone (hs.ext hb) (by omega) hts)
  have htop := (fun w' (hb : Below w.heap.size w w') => (top_any c tops S p cap w' (hK.ext hb) hcap (hs.ext hb) (by omega) hts).mono fun _ _ h => h.flat)
  have hrtop := (fun w' (hb : Below w.heap.size w w') => (rtop_any c tops S p cap w' (hs.ext hb) (by omega) hts).mono fun _ _ h => h.flat)
  have HLIV := Lib.hid (fun w' (hb : Below w.heap.size w w') => lives_any w' (hK.ext hb) (TzT.ext hb hT htg) (by have := hb.size; omega))
  obtain ⟨AC, hAC⟩ : ∃ a, a = addC c tops := ⟨_, rfl⟩
  obtain ⟨AE, hAE⟩ : ∃ a, a = addE c tops := ⟨_, rfl⟩
  obtain ⟨AT, hAT⟩ : ∃ a, a = addT c tops s := ⟨_, rfl⟩
  unfold AddPost at hadd hradd
  simp only [← hAC, ← hAE, ← hAT] at hadd hradd
  obtain ⟨TS, hTS⟩ : ∃ a, a = topS c tops := ⟨_, rfl⟩
  obtain ⟨TE, hTE⟩ : ∃ a, a = topE c tops := ⟨_, rfl⟩
  simp only [← hTS, ← hTE] at htop hrtop
  have htl : AT.length ≤ 1099511627776 := by rw [hAT]; have := addT_length_le c tops s; omega
  have HADD := Lib.hid hadd
  have HRADD := Lib.hid hradd
  have HTOP := Lib.hid htop
  have HRTOP := Lib.hid hrtop
  have HTL := Lib.hid htl
  clear hadd hradd hAC hAE hAT htop hrtop hTS hTE htl
  have HBW := Lib.hid hbw
  have HW := Lib.hid hW
  clear hbw hW hK hT hs
  go_enter Tryd.func3, Tryd.ntmps3
  go_wp2_with fail
  go_at_call 11
  refine (HADD.out _ HBW.out).mono ?_
  rintro e' w2 ⟨v2, rfl, ho2, hb2⟩
  obtain ⟨p2, c2, rfl, hr2⟩ := hasS_own (l := AT) ho2
  have HB2 := Lib.hid (HBW.out.trans (hb2.mono HBW.out.size))
  have hP2 := HW.out.ext hb2
  have hsz2 := HB2.out.size
  have hb3 : Below w2.heap.size w2 (w2.alloc (.cells #[.int .i64 AC, .slice p2 AT.length c2] 24)) := (Below.refl _ _).alloc (Nat.le_refl _) _
  have hA3 : IsBlk (w2.alloc (.cells #[.int .i64 AC, .slice p2 AT.length c2] 24)) w2.heap.size #[.int .i64 AC, .slice p2 AT.length c2] 24 := IsBlk.new _ _ _
  have HB3 := Lib.hid (HB2.out.trans (hb3.mono hsz2))
  have HP3 := Lib.hid (hP2.ext hb3)
  have HA3 := Lib.hid hA3
  have HR3 := Lib.hid (hr2.ext hb3)
  have x0 := hP2.cell (i := 0) rfl
  have x1 := hP2.cell (i := 1) rfl
  have hlt2 := hP2.lt
  clear ho2 hb2 hP2 hb3 hA3 hr2
  go_wp2_with fail
  go_at_call 12
  refine (HRADD.out _ HB3.out).mono ?_
  rintro e' w4 ⟨v4, rfl, ho4, hb4⟩
  obtain ⟨p4, c4, rfl, hr4⟩ := hasS_own (l := AT) ho4
  have HB4 := Lib.hid (HB3.out.trans (hb4.mono HB3.out.size))
  have hsz4 := HB4.out.size
  have hb5 : Below w4.heap.size w4 (w4.alloc (.cells #[.int .i64 AC, .slice p4 AT.length c4] 24)) := (Below.refl _ _).alloc (Nat.le_refl _) _
  have hC5 : IsBlk (w4.alloc (.cells #[.int .i64 AC, .slice p4 AT.length c4] 24)) w4.heap.size #[.int .i64 AC, .slice p4 AT.length c4] 24 := IsBlk.new _ _ _
  have HB5 := Lib.hid (HB4.out.trans (hb5.mono hsz4))
  have hP4 := HP3.out.ext hb4
  have hP5 := hP4.ext hb5
  have HA5 := Lib.hid ((HA3.out.ext hb4).ext hb5)
  have HR5 := Lib.hid ((HR3.out.ext hb4).ext hb5)
  have HS5 := Lib.hid (hr4.ext hb5)
  have HC5 := Lib.hid hC5
  have x0 := hP4.cell (i := 0) rfl
  have x1 := hP4.cell (i := 1) rfl
  have hlt4 := hP4.lt
  have HP5 := Lib.hid hP5
  clear ho4 hb4 hP4 hP5 hb5 hC5 hr4
  go_wp2_with fail
  go_at_call 13
  refine (HTOP.out _ HB5.out).mono ?_
  rintro e' w6 ⟨rfl, hb⟩
  have HB6 := Lib.hid (HB5.out.trans (hb.mono HB5.out.size))
  have hsz6 := HB6.out.size
  have hP6 := HP5.out.ext hb
  have HA6 := Lib.hid (HA5.out.ext hb)
  have HC6 := Lib.hid (HC5.out.ext hb)
  have HR6 := Lib.hid (HR5.out.ext hb)
  have HS6 := Lib.hid (HS5.out.ext hb)
  have x0 := hP6.cell (i := 0) rfl
  have x1 := hP6.cell (i := 1) rfl
  clear hb hP6
  go_wp2_with fail
  go_at_call 14
  refine (HRTOP.out _ HB6.out).mono ?_
  rintro e' w7 ⟨rfl, hb⟩
  have HB7 := Lib.hid (HB6.out.trans (hb.mono HB6.out.size))
  have HA7 := Lib.hid (HA6.out.ext hb)
  have HC7 := Lib.hid (HC6.out.ext hb)
  have HR7 := Lib.hid (HR6.out.ext hb)
  have HS7 := Lib.hid (HS6.out.ext hb)
  clear hb x0 x1
  go_wp2_with fail
  go_at_call 15
  refine (HLIV.out _ HB7.out).mono ?_
  rintro e' w8 ⟨rfl, hb⟩
  have HB8 := Lib.hid (HB7.out.trans (hb.mono HB7.out.size))
  have hA8 := HA7.out.ext hb
  have hC8 := HC7.out.ext hb
  have HR8 := Lib.hid (HR7.out.ext hb)
  have HS8 := Lib.hid (HS7.out.ext hb)
  have a0 := hA8.cell (i := 0) rfl
  have a1 := hA8.cell (i := 1) rfl
  have c0 := hC8.cell (i := 0) rfl
  have c1 := hC8.cell (i := 1) rfl
  have hss : ((bs TS).toList == (bs TS).toList) = true := by simp
  clear hb hA8 hC8
  go_wp2_with fail
  go_at_call 16
  refine (same_any AT AT _ _ p2 p4 c2 c4 w8 HR8.out HS8.out HTL.out HTL.out).mono ?_
  rintro e' w9 ⟨rfl, hb⟩
  rw [decide_eq_true rfl]
  have HB9 := Lib.hid (HB8.out.trans (hb.mono HB8.out.size))
  clear hb
  go_wp2
  go_ret
  exact ⟨rfl, HB9.out⟩
end Go.Proofs.YtfnlehnhcekpkaaDoor
