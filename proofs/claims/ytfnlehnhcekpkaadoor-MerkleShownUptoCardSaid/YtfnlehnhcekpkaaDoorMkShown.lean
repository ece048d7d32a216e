/- MerkleShown: each path of a tree shows its text; another text is shown by any path only if two unlike texts with one digest are at hand; paths are short. Conditions: at most 2^40 texts and digests, none longer than 2^40 bytes; the tables read as the texts lay them. -/
import Derived.Test.YtfnlehnhcekpkaaDoorMkCl
set_option linter.unusedVariables false
set_option linter.unusedSimpArgs false
namespace Go.Proofs.YtfnlehnhcekpkaaDoor
open Go Go.RowKit Go.BigFrame
set_option maxRecDepth 100000

set_option maxHeartbeats 8000000 in
theorem shown_any (l : List (List UInt8)) (i : Int) (s : List UInt8) (q : List (List UInt8)) (S S2 : Nat → Prop) (p qp : Option Addr) (cap qc : Nat) (w : World) (hK : Ks w) (hT : TzT w) (htg : 1 < w.heap.size) (hs : HasS S w p l) (hqs : HasS S2 w qp q) (hll : l.length ≤ 1099511627776) (hts : ∀ s ∈ l, s.length ≤ 1099511627776) (hsl : s.length ≤ 1099511627776) (hqn : q.length ≤ 1099511627776) (hqt : ∀ x ∈ q, x.length ≤ 1099511627776) :
    Calls Tryd.prog 6 #[.slice p l.length cap, .int .i64 i, .string (bs s), .slice qp q.length qc] w fun e' w' => e' = .returned (.bool true) ∧ Below w.heap.size w w' := by
  have hkl := hK.lt
  have HL := Lib.hid (lives_any w hK hT htg)
  have HK := Lib.hid hK
  have HTS := Lib.hid hts
  have HARG := Lib.hid hs
  have HQ := Lib.hid hqs
  have HQT := Lib.hid hqt
  clear hK hT hs hts hqs hqt
  go_enter Tryd.func6, Tryd.ntmps6
  go_wp2_with fail
  go_at_call 15
  refine HL.out.mono ?_
  rintro e' w1 ⟨rfl, hb⟩
  have HB1 := Lib.hid hb
  have hsz1 := hb.size
  clear hb HL
  by_cases hmany : 1024 < l.length
  · go_wp2_with fail
    go_at_call 17
    refine (new_many p l.length cap w1 hmany).mono ?_
    rintro e' w2 ⟨rfl, rfl⟩
    go_wp2
    go_ret
    exact ⟨rfl, HB1.out⟩
  have hfew : l.length ≤ 1024 := by omega
  go_wp2_with fail
  go_at_call 17
  refine (new_any l S p cap w1 (HARG.out.ext HB1.out) hfew).mono ?_
  rintro e' w2 ⟨gA, tpA, tcA, rfl, htr, hb⟩
  obtain ⟨_, _, _, _, hblk⟩ := htr.block
  have hgA2 := hblk.lt
  have hgeA0 : w1.heap.size ≤ gA := by
    rcases htr with ⟨b, L, h, _⟩ | ⟨h, _⟩
    · exact h
    · exact h
  have hgeA : w.heap.size ≤ gA := by omega
  have HB2 := Lib.hid (HB1.out.trans (hb.mono hsz1))
  have hsz2 := HB2.out.size
  have HTA2 : Hid (TreeIn (fun x => w.heap.size ≤ x) l gA tpA tcA w2) := Lib.hid (htr.ext_to (fun x hx _ => by omega) (fun _ _ _ => rfl))
  clear htr hb hblk hgeA0 hmany
  by_cases h0 : l.length = 0
  · have h0I : ((l.length : Int) == 0) = true := by rw [h0]; rfl
    clear h0
    go_wp2
    go_ret
    exact ⟨rfl, HB2.out⟩
  have h0I : ((l.length : Int) == 0) = false := by rw [beq_eq_false_iff_ne]; omega
  by_cases hi : i < 0
  · have hdi : decide (i < 0) = true := decide_eq_true hi
    go_wp2
    go_ret
    exact ⟨rfl, HB2.out⟩
  have hdi : decide (i < 0) = false := decide_eq_false hi
  obtain ⟨m, rfl⟩ : ∃ m : Nat, i = (m : Int) := ⟨i.toNat, by omega⟩
  obtain ⟨r, hr⟩ : ∃ r, r = m % l.length := ⟨_, rfl⟩
  have hrl : r < l.length := by rw [hr]; exact Nat.mod_lt _ (by omega)
  have hmod : (m : Int).tmod (l.length : Int) = (r : Int) := by rw [hr, Int.tmod_eq_emod_of_nonneg (by omega)]; simp
  have hne0 : ¬ (l.length : Int) = 0 := by omega
  obtain ⟨PV, hPV⟩ : ∃ PV, PV = pathV l (r : Int) := ⟨_, rfl⟩
  have hPE : pathE l (r : Int) = 0 := by unfold pathE; rw [if_neg (by omega)]
  have hown := shows_own hfew hrl
  have hshort : ∀ d : Nat, l.length < 2 ^ d → PV.length ≤ d := fun d hd => by
    have h := pathD_short l d 0 l.length r (by omega) (by omega)
    rw [hPV]
    unfold pathV
    rw [if_neg (by omega), Int.toNat_natCast, List.length_reverse]
    exact h
  obtain ⟨p32, _, _⟩ := showsB_true hown
  rw [← hPV] at hown p32
  have hPl : PV.length ≤ 1024 := by have := hshort 10; have h2 := pathV_length (l := l) (by omega) (r : Int); rw [← hPV] at h2; omega
  obtain ⟨t, ht⟩ : ∃ t, t = l[r] := ⟨_, rfl⟩
  rw [← ht] at hown
  have htl : t.length ≤ 1099511627776 := by rw [ht]; exact HTS.out _ (List.getElem_mem hrl)
  obtain ⟨g0, o0, hlp, _, hg0, hc0⟩ := HARG.out r hrl
  rw [← ht] at hc0
  have HC0 := Lib.hid hc0
  have HT := Lib.hid ht
  have HPV := Lib.hid hPV
  have HPE := Lib.hid hPE
  have HOWN := Lib.hid hown
  have HSHORT := Lib.hid hshort
  have HP32 : Hid (∀ x ∈ PV, x.length ≤ 1099511627776) := Lib.hid (fun x hx => by rw [p32 x hx]; omega)
  subst hlp
  clear hr ht hPV hPE hown hshort p32 hi h0 hc0
  go_wp2_with fail
  go_at_call 19
  have hc := path_tot (fun x => w.heap.size ≤ x) l gA tpA tcA ((r : Int)) w2 (HK.out.ext HB2.out) (by omega) (by omega) HTS.out HTA2.out (fun x hx => by omega)
  rw [← HPV.out, HPE.out] at hc
  refine hc.mono ?_
  clear hc
  rintro e' w3 ⟨v, rfl, hown, hk, hb, htr⟩
  obtain ⟨pPa, cPa, rfl, hcapPa, hnonePa, hrow⟩ := hasS_ownN (l := PV) hown
  have HB3 := Lib.hid (HB2.out.trans (hb.mono hgeA))
  have HTA3 := Lib.hid htr
  have hgA3 : gA < w3.heap.size := by have := hk.1; omega
  have hsz3 := HB3.out.size
  have HRPa3 : Hid (HasS (fun x => x ≠ gA) w3 pPa PV) := Lib.hid (hrow.ext_to (fun x hx => by omega) (fun _ _ _ => rfl))
  clear hown hk hb htr hrow
  have c0 := HC0.out
  go_upto_region 8 with (fail)
  refine mixB_start [] (Cls w) (by kernel_rfl) (Cls.of (HB3.out.drew)) (fun hCw => ?_)
  refine mixB_flt (by kernel_rfl) [0, 1, 2, 3, 5, 6, 7, 8, 9, 10, 11, 12] 4 _ _ hCw (by kernel_rfl) ?_
  simp only [opsAt, List.map_cons, List.map_nil, List.toList_toArray, List.getD_cons_succ, List.getD_cons_zero]
  unfold Cls
  repeat (go_big_quiet_step (fail))
  refine wpQuiet_nil ?_
  (try rw [← Cls_def])
  refine mixB_ch (i := 4) (fuel := 3) (by kernel_rfl) (by kernel_rfl) ?_
  simp only [opsAt, List.map_cons, List.map_nil, List.toList_toArray, List.getD_cons_succ, List.getD_cons_zero]
  go_wp2_with (go_at_call 18; refine (root_any (fun x => w.heap.size ≤ x) l gA tpA tcA w3.drew (HK.out.ext HB3.out.drew) (by omega) (by omega) HTS.out (HTA3.out.ext ((Below.refl _ _).drew)) (fun x hx => by have h : w3.heap.size ≤ x := hx; omega)).mono ?_; rintro e' w4 ⟨rfl, b, hk, hb, L', hm⟩; have hb34 := ((Below.refl gA w3).drew).trans hb; have HB4 := Lib.hid (HB3.out.trans (hb34.mono hgeA)); have HTA4 := Lib.hid (show TreeM (fun x => w.heap.size ≤ x) l gA tpA tcA w4 from ⟨b, L', hm⟩); have HRPa4 := Lib.hid (HRPa3.out.ext_to (fun _ h => h) (fun x hx hlt => hk.2 x hlt (by omega))); have hsz4 := HB4.out.size)
  refine ThenB.mk (Cls.of HB4.out) (fun hCw => ?_)
  refine mixB_ch (i := 13) (fuel := 2) (by kernel_rfl) (by kernel_rfl) ?_
  simp only [opsAt, List.map_cons, List.map_nil, List.toList_toArray, List.getD_cons_succ, List.getD_cons_zero]
  go_wp2_with (go_at_call 21; refine (shows_any (rootL l) t (r : Int) (l.length : Int) PV _ pPa cPa w4 (HK.out.ext HB4.out) (by rw [rootL_len]; omega) htl HRPa4.out (by omega) HP32.out).mono ?_; rintro e' w5 ⟨rfl, hb2⟩; rw [HOWN.out]; have HB5 := Lib.hid (HB4.out.trans (hb2.mono hsz4)); have HTA5 := Lib.hid (HTA4.out.ext hb2); have HRPa5 := Lib.hid (HRPa4.out.ext hb2); have hsz5 := HB5.out.size)
  refine ThenB.mk (Cls.of HB5.out) (fun hCw => ?_)
  refine mixB_flt (by kernel_rfl) [14, 15] 0 _ _ hCw (by kernel_rfl) ?_
  simp only [opsAt, List.map_cons, List.map_nil, List.toList_toArray, List.getD_cons_succ, List.getD_cons_zero]
  unfold Cls
  repeat (go_big_quiet_step (fail))
  refine wpQuiet_nil ?_
  (try rw [← Cls_def])
  refine mixB_end [] (by kernel_rfl) ?_
  refine wpList_nil ?_
  refine Calm.normal ?_
  clear hCw hk hb hm hb34 hb2 HTA2 HTA3 HRPa3 HRPa4 HTA4 HB4 HOWN c0 hmod hne0 h0I
  go_wp2
  clear hdi htl
  go_loopw [12, 13] (fun x y wr => ∃ (d m' : Nat), x = .int .i64 (d : Int) ∧ y = .int .i64 (m' : Int) ∧ d ≤ 11 ∧ m' = l.length / 2 ^ d ∧ w5 = wr) (fun _ y _ => (intOf y).toNat)
  case atStart => exact ⟨0, l.length, rfl, rfl, by omega, by simp, rfl⟩
  case round =>
  obtain ⟨d, m', rfl, rfl, hd, hmd, rfl⟩ := hrel
  by_cases hm : 0 < m'
  · have hmI : (0 : Int) < (m' : Int) := by omega
    have hd10 : d ≤ 10 := by
      rcases Nat.lt_or_ge 10 d with h | h
      · have h2 := Nat.pow_le_pow_right (show 0 < 2 by omega) (show 11 ≤ d by omega)
        have h3 : l.length / 2 ^ d = 0 := Nat.div_eq_of_lt (by omega)
        omega
      · exact h
    have hmd2 : m' / 2 = l.length / 2 ^ (d + 1) := by rw [hmd, Nat.div_div_eq_div_mul, Nat.pow_succ]
    have HMD := Lib.hid hmd2
    have hmle : m' ≤ 1024 := by rw [hmd]; exact Nat.le_trans (Nat.div_le_self _ _) hfew
    clear hmd hmd2
    go_wp2
    go_roundw
    case rel => exact ⟨d + 1, m' / 2, by go_num, by go_num, by omega, HMD.out, trivial⟩
    case measure => simp [intOf]; omega
  rw [show (m' : Int) = 0 by omega]
  obtain rfl : m' = 0 := by omega
  have hlt : l.length < 2 ^ d := by
    rcases Nat.lt_or_ge l.length (2 ^ d) with h | h
    · exact h
    · have := Nat.div_pos h (Nat.two_pow_pos d)
      omega
  have hge : (PV.length : Int) ≤ (d : Int) := by have := HSHORT.out d hlt; omega
  have hdge : decide (d < PV.length) = false := decide_eq_false (by omega)
  have hbk : IsBlk (w5.alloc (.cells #[.slice pPa PV.length cPa, .slice qp q.length qc] 22)) w5.heap.size #[.slice pPa PV.length cPa, .slice qp q.length qc] 22 := IsBlk.new _ _ _
  have hbw0 : Below w5.heap.size w5 (w5.alloc (.cells #[.slice pPa PV.length cPa, .slice qp q.length qc] 22)) := (Below.refl _ _).alloc (Nat.le_refl _) _
  have HBK := Lib.hid hbk
  have HBW0 := Lib.hid hbw0
  clear hmd hlt hbk hbw0 hm
  go_wp2
  go_loopw [80] (fun x wr => ∃ k : Nat, x = .int .i64 (k : Int) ∧ k ≤ 2 ∧ IsBlk wr w5.heap.size #[.slice pPa PV.length cPa, .slice qp q.length qc] 22 ∧ Below w5.heap.size w5 wr) (fun x _ => 2 - (intOf x).toNat)
  case atStart => exact ⟨0, rfl, by omega, HBK.out, HBW0.out⟩
  case round =>
  clear HBK HBW0 HSHORT hge hdge
  obtain ⟨k, rfl, hk, hblk, hbw⟩ := hrel
  have HBK := Lib.hid hblk
  have HBR := Lib.hid hbw
  have HB6 := Lib.hid (HB5.out.trans (hbw.mono hsz5))
  have hsz6 := HB6.out.size
  have HTA6 := Lib.hid (HTA5.out.ext hbw)
  by_cases hk2 : k < 2
  · obtain ⟨lq, pq, cq, hcell, hrow, hlq, htq⟩ : ∃ (lq : List (List UInt8)) (pq : Option Addr) (cq : Nat), wr.cell? ⟨w5.heap.size, k, none⟩ = some (.slice pq lq.length cq) ∧ HasS (fun _ => True) wr pq lq ∧ lq.length ≤ 1099511627776 ∧ ∀ x ∈ lq, x.length ≤ 1099511627776 := by
      rcases (by omega : k = 0 ∨ k = 1) with rfl | rfl
      · exact ⟨PV, pPa, cPa, hblk.cell rfl, (HRPa5.out.ext hbw).ext_to (fun _ _ => trivial) (fun _ _ _ => rfl), by omega, HP32.out⟩
      · exact ⟨q, qp, qc, hblk.cell rfl, (HQ.out.ext HB6.out).ext_to (fun _ _ => trivial) (fun _ _ _ => rfl), hqn, HQT.out⟩
    have hc0 := (HB6.out.cell (p := ⟨g0, o0 + r, none⟩) hg0).trans HC0.out
    have HCL := Lib.hid (fun w' (hb : Below w.heap.size w w') (hb2 : Below wr.heap.size wr w') => clash_any l s r lq S _ (some ⟨g0, o0, none⟩) pq cap cq w' (HK.out.ext hb) hrl hfew (HARG.out.ext hb) (hrow.ext hb2) HTS.out hsl hlq htq)
    rw [← HT.out] at HCL
    have HSHW := Lib.hid (fun w' (hb : Below w.heap.size w w') (hb2 : Below wr.heap.size wr w') => shows_any (rootL l) s (r : Int) (l.length : Int) lq _ pq cq w' (HK.out.ext hb) (by rw [rootL_len]; omega) hsl (hrow.ext hb2) hlq htq)
    obtain ⟨Bq, hBq⟩ : ∃ Bq, Bq = showsB (rootL l) s (r : Int) (l.length : Int) lq := ⟨_, rfl⟩
    rw [← hBq] at HCL HSHW
    have hss := bs_size s
    clear hblk hbw hrow htq hBq
    by_cases hst : s = t
    · have hse : ((bs s).toList == (bs t).toList) = true := by rw [tl_bs, tl_bs, hst]; simp
      have hn : (s != t) = false := by rw [hst]; simp
      rw [hn] at HCL
      clear hst hn HSHW
      go_wp2_with fail
      go_at_call 22
      refine (HCL.out wr HB6.out (Below.refl _ _)).mono ?_
      rintro e' w7 ⟨a, b, rfl, _, hal, hbl, hb⟩
      rw [Bool.false_and]
      have HF := Lib.hid (And.intro (HBK.out.ext hb) (below_ext HBR.out hb))
      clear hb hc0 hcell
      go_wp2
      go_roundw
      case rel => exact ⟨k + 1, by go_num, by omega, HF.out.1, HF.out.2⟩
      case measure => simp [intOf]; omega
    · have hse : ((bs s).toList == (bs t).toList) = false := by rw [tl_bs, tl_bs, beq_eq_false_iff_ne]; exact hst
      have hse3 : ¬ (bs s).toList = (bs t).toList := by rw [tl_bs, tl_bs]; exact hst
      have hn : (s != t) = true := by simpa using hst
      rw [hn] at HCL
      have HST := Lib.hid hst
      clear hst hn
      go_wp2_with fail
      go_at_call 18
      refine (root_made (fun x => w.heap.size ≤ x) l gA tpA tcA wr HTA6.out).mono ?_
      rintro e' w7 ⟨rfl, hb⟩
      have HB7 := Lib.hid (HB6.out.trans (hb.mono hsz6))
      have HC7 := Lib.hid hb
      have hsz7 := HB7.out.size
      have HBK7 := Lib.hid (HBK.out.ext hb)
      have HBR7 := Lib.hid (below_ext HBR.out hb)
      have hc7 := (hb.cell (p := ⟨g0, o0 + r, none⟩) (Nat.lt_of_lt_of_le hg0 hsz6)).trans hc0
      clear hb hcell hc0
      go_wp2_with fail
      go_at_call 21
      refine (HSHW.out w7 HB7.out HC7.out).mono ?_
      rintro e' w8 ⟨rfl, hb⟩
      have HB8 := Lib.hid (HB7.out.trans (hb.mono hsz7))
      have HC8 := Lib.hid (below_ext HC7.out hb)
      have hsz8 := HB8.out.size
      have HBK8 := Lib.hid (HBK7.out.ext hb)
      have HBR8 := Lib.hid (below_ext HBR7.out hb)
      clear hb hc7
      cases Bq
      · go_wp2_with fail
        go_at_call 22
        refine (HCL.out w8 HB8.out HC8.out).mono ?_
        rintro e' w9 ⟨a, b, rfl, _, hal, hbl, hb⟩
        rw [Bool.and_false]
        have HF := Lib.hid (And.intro (HBK8.out.ext hb) (below_ext HBR8.out hb))
        clear hb
        go_wp2
        go_roundw
        case rel => exact ⟨k + 1, by go_num, by omega, HF.out.1, HF.out.2⟩
        case measure => simp [intOf]; omega
      · go_wp2_with fail
        go_at_call 22
        refine (HCL.out w8 HB8.out HC8.out).mono ?_
        rintro e' w9 ⟨a, b, rfl, himp, hal, hbl, hb⟩
        rw [Bool.and_self]
        obtain ⟨hab, hsab⟩ := himp rfl
        have HB9 := Lib.hid (HB8.out.trans (hb.mono hsz8))
        have hsz9 := HB9.out.size
        have HBK9 := Lib.hid (HBK8.out.ext hb)
        have HBR9 := Lib.hid (below_ext HBR8.out hb)
        have hsa := bs_size a
        have hsb := bs_size b
        have hne : ((bs a).toList == (bs b).toList) = false := by rw [tl_bs, tl_bs, beq_eq_false_iff_ne]; exact hab
        have hne3 : ¬ (bs a).toList = (bs b).toList := by rw [tl_bs, tl_bs]; exact hab
        have HSAB := Lib.hid hsab
        clear hb hab hsab himp
        go_wp2_with fail
        go_at_call 23
        refine (sum_l a _ rfl w9 (HK.out.ext HB9.out) (by omega)).mono ?_
        rintro e' w10 ⟨rfl, hb⟩
        have HB10 := Lib.hid (HB9.out.trans (hb.mono hsz9))
        have hsz10 := HB10.out.size
        have HBK10 := Lib.hid (HBK9.out.ext hb)
        have HBR10 := Lib.hid (below_ext HBR9.out hb)
        clear hb
        go_wp2_with fail
        go_at_call 23
        refine (sum_l b _ rfl w10 (HK.out.ext HB10.out) (by omega)).mono ?_
        rintro e' w11 ⟨rfl, hb⟩
        have HF := Lib.hid (And.intro (HBK10.out.ext hb) (below_ext HBR10.out hb))
        have hxe : ((bs (shaL a)).toList == (bs (shaL b)).toList) = true := by rw [HSAB.out]; simp
        clear hb
        go_wp2
        go_roundw
        case rel => exact ⟨k + 1, by go_num, by omega, HF.out.1, HF.out.2⟩
        case measure => simp [intOf]; omega
  · obtain rfl : k = 2 := by omega
    go_wp2
    go_ret
    exact ⟨rfl, HB6.out⟩
end Go.Proofs.YtfnlehnhcekpkaaDoor
