/- merkle.Clash. Conditions: at most 1024 texts, the place among them; texts no longer than 2^40 bytes; the table of constants reads as the text lays it. -/
import Derived.Test.YtfnlehnhcekpkaaDoorMkGp
import Derived.Test.YtfnlehnhcekpkaaDoorMkMade
import Derived.Test.YtfnlehnhcekpkaaDoorMkTrees
set_option linter.unusedVariables false
set_option linter.unusedSimpArgs false
namespace Go.Proofs.YtfnlehnhcekpkaaDoor
open Go Go.RowKit Go.BigFrame
set_option maxRecDepth 100000

theorem joinL_ne {x y p q : List UInt8} {b : Bool} (hx : x.length = 32) (hy : y.length = 32) (hp : p.length = 32) (hq : q.length = 32) (h : x ≠ y) : joinL x p b ≠ joinL y q b := by
  intro e
  unfold joinL at e
  cases b
  · rw [if_neg (by simp), if_neg (by simp), List.cons.injEq] at e
    exact h (List.append_inj e.2 (by omega)).2
  · rw [if_pos rfl, if_pos rfl, List.cons.injEq] at e
    exact h (List.append_inj e.2 (by omega)).1
theorem joinL_length {x p : List UInt8} {b : Bool} : (joinL x p b).length = 1 + x.length + p.length := by
  unfold joinL
  split <;> simp <;> omega
/-- What a path that shows something is. -/
theorem showsB_true {root s : List UInt8} {i n : Nat} {p : List (List UInt8)} (h : showsB root s (i : Int) (n : Int) p = true) : (∀ x ∈ p, x.length = 32) ∧ (downL i n).reverse.length = p.length ∧ upL (shaL (0 :: s)) p (downL i n).reverse = root := by
  unfold showsB at h
  split at h
  · cases h
  · rename_i h1
    rw [Int.toNat_natCast, Int.toNat_natCast] at h
    split at h
    · cases h
    · rename_i h2
      refine ⟨?_, by rw [List.length_reverse]; omega, eq_of_beq h⟩
      have hd : dig32 p = true := by
        cases hd : dig32 p with
        | true => rfl
        | false => exact absurd (Or.inr (Or.inr (Or.inr hd))) h1
      unfold dig32 at hd
      rw [List.all_eq_true] at hd
      intro x hx
      simpa using hd x hx
set_option maxHeartbeats 8000000 in
theorem clash_any (l : List (List UInt8)) (s : List UInt8) (i : Nat) (q : List (List UInt8)) (S S2 : Nat → Prop) (lp qp : Option Addr) (lc qc : Nat) (w : World) (hK : Ks w) (hi : i < l.length) (hl : l.length ≤ 1024) (hls : HasS S w lp l) (hqs : HasS S2 w qp q) (hts : ∀ s ∈ l, s.length ≤ 1099511627776) (hsl : s.length ≤ 1099511627776) (hqn : q.length ≤ 1099511627776) (hqt : ∀ x ∈ q, x.length ≤ 1099511627776) :
    Calls Tryd.prog 22 #[.slice lp l.length lc, .string (bs s), .int .i64 (i : Int), .slice qp q.length qc] w fun e' w' => ∃ a b, e' = .returned (.tuple #[.string (bs a), .string (bs b), .bool (s != l[i] && showsB (rootL l) s (i : Int) (l.length : Int) q)]) ∧ ((s != l[i] && showsB (rootL l) s (i : Int) (l.length : Int) q) = true → a ≠ b ∧ shaL a = shaL b) ∧ a.length ≤ 2199023255552 ∧ b.length ≤ 2199023255552 ∧ Below w.heap.size w w' := by
  have hkl := hK.lt
  have hss := bs_size s
  obtain ⟨t, ht⟩ : ∃ t, t = l[i] := ⟨_, rfl⟩
  obtain ⟨B, hB⟩ : ∃ B, B = showsB (rootL l) s (i : Int) (l.length : Int) q := ⟨_, rfl⟩
  have htl : t.length ≤ 1099511627776 := by rw [ht]; exact hts _ (List.getElem_mem hi)
  have hown := shows_own hl hi
  have hcell : ∀ w', Below w.heap.size w w' → ∃ g o, lp = some ⟨g, o, none⟩ ∧ g < w'.heap.size ∧ w'.cell? ⟨g, o + i, none⟩ = some (.string (bs t)) := fun w' hb => by
    obtain ⟨g, o, h1, _, h3, h4⟩ := (hls.ext hb) i hi
    exact ⟨g, o, h1, h3, by rw [ht]; exact h4⟩
  rw [← ht] at hown ⊢
  rw [← hB]
  obtain ⟨NE, hNE⟩ : ∃ NE, NE = (s != t) := ⟨_, rfl⟩
  rw [← hNE]
  have HNE := Lib.hid hNE
  have HK := Lib.hid hK
  have HTS := Lib.hid hts
  have HARG := Lib.hid hls
  have HQ := Lib.hid hqs
  have HQT := Lib.hid hqt
  have HB' := Lib.hid hB
  have HOWN := Lib.hid hown
  have HCELL := Lib.hid hcell
  have hiI : (i : Int) < (l.length : Int) := by omega
  clear hK hts hls hqs hqt hB ht hown hcell hNE
  go_enter Tryd.func22, Tryd.ntmps22
  go_wp2_with fail
  go_at_call 17
  refine (new_any l S lp lc w HARG.out hl).mono ?_
  rintro e' w1 ⟨gA, tpA, tcA, rfl, htr, hb⟩
  obtain ⟨_, _, _, _, hblk⟩ := htr.block
  have hgA1 := hblk.lt
  have hgeA : w.heap.size ≤ gA := by
    rcases htr with ⟨b, L, h, _⟩ | ⟨h, _⟩
    · exact h
    · exact h
  have HB1 := Lib.hid hb
  have hsz1 := hb.size
  have HTA1 := Lib.hid htr
  obtain ⟨g0, o0, hlp, hg0, c0⟩ := HCELL.out w1 hb
  clear htr hblk
  subst hlp
  by_cases hst : s = t
  · have hse : ((bs s).toList == (bs t).toList) = true := by rw [hst]; simp
    obtain rfl : NE = false := by rw [HNE.out, hst]; simp
    go_wp2
    go_ret3
    exact ⟨[], [], rfl, (fun h => by cases h), by simp, by simp, HB1.out⟩
  have hse : ((bs s).toList == (bs t).toList) = false := by rw [tl_bs, tl_bs, beq_eq_false_iff_ne]; exact hst
  obtain rfl : NE = true := by rw [HNE.out]; simpa using hst
  have HST := Lib.hid hst
  have hi0 : decide ((i : Int) < 0) = false := by simp
  clear hst hb HNE
  go_wp2_with fail
  go_at_call 18
  refine (root_any (fun x => w.heap.size ≤ x) l gA tpA tcA w1 (HK.out.ext HB1.out) (by omega) (by omega) HTS.out HTA1.out (fun x hx => by omega)).mono ?_
  rintro e' w2 ⟨rfl, b, hk, hb, L', hm⟩
  have htr : TreeIn (fun x => w.heap.size ≤ x) l gA tpA tcA w2 := .inl ⟨b, L', hm⟩
  have HB2 := Lib.hid (HB1.out.trans (hb.mono hgeA))
  have HTA2 := Lib.hid htr
  have hgA2 : gA < w2.heap.size := by have := hk.1; omega
  have hsz2 := HB2.out.size
  clear hk hb hm htr
  go_wp2_with fail
  go_at_call 21
  refine (shows_any (rootL l) s (i : Int) (l.length : Int) q S2 qp qc w2 (HK.out.ext HB2.out) (by rw [rootL_len]; omega) hsl (HQ.out.ext HB2.out) hqn HQT.out).mono ?_
  rintro e' w3 ⟨rfl, hb⟩
  rw [← HB'.out]
  have HB3 := Lib.hid (HB2.out.trans (hb.mono hsz2))
  have HTA3 := Lib.hid (HTA2.out.ext hb)
  have hgA3 : gA < w3.heap.size := by have := hb.size; omega
  have hsz3 := HB3.out.size
  clear hb c0
  cases B
  · go_wp2
    go_ret3
    exact ⟨[], [], rfl, (fun h => by cases h), by simp, by simp, HB3.out⟩
  have hpt := path_tot (fun x => w.heap.size ≤ x) l gA tpA tcA (i : Int) w3 (HK.out.ext HB3.out) (by omega) (by omega) HTS.out HTA3.out (fun x hx => by omega)
  obtain ⟨o1, o2, o3⟩ := showsB_true HOWN.out
  obtain ⟨q1, q2, q3⟩ := showsB_true HB'.out.symm
  obtain ⟨V, hV⟩ : ∃ V, V = pathV l (i : Int) := ⟨_, rfl⟩
  have hPE : pathE l (i : Int) = 0 := by unfold pathE; rw [if_neg (by omega)]
  rw [hPE, ← hV] at hpt
  rw [← hV] at o1 o2 o3
  have HPT := Lib.hid hpt
  obtain ⟨D, hD⟩ : ∃ D, D = (downL i l.length).reverse := ⟨_, rfl⟩
  have HTU : Hid (∀ w', Calls Tryd.prog 45 #[.int .i64 (i : Int), .int .i64 (l.length : Int)] w' fun e' w'' => ∃ v, e' = .returned v ∧ w''.ownsRow w'.heap.size 4 1 v D.length (bools D) ∧ Below w'.heap.size w' w'') := Lib.hid (fun w' => by
    have h := turns_any i l.length (by omega) hi w'
    rw [hD, List.length_reverse]
    exact h)
  rw [← hD] at o2 o3 q2 q3
  have O1 := Lib.hid o1
  have O2 := Lib.hid o2
  have O3 := Lib.hid o3
  have Q1 := Lib.hid q1
  have Q2 := Lib.hid q2
  have Q3 := Lib.hid q3
  clear hpt o1 o2 o3 q1 q2 q3 hV hPE hD HOWN HB'
  go_wp2_with fail
  go_at_call 19
  refine HPT.out.mono ?_
  rintro e' w4 ⟨v, rfl, hown, hk, hb, htr⟩
  obtain ⟨pV, cV, rfl, _, _, hrow⟩ := hasS_ownN (l := V) hown
  have HB4 := Lib.hid (HB3.out.trans (hb.mono hgeA))
  have hsz4 := HB4.out.size
  have HV4 := Lib.hid hrow
  obtain ⟨g1, o1, hlp, hg1, c0⟩ := HCELL.out w4 HB4.out
  rw [Option.some.injEq, Addr.mk.injEq] at hlp
  obtain ⟨rfl, rfl, _⟩ := hlp
  have hst2 := bs_size t
  clear hown hk hb htr hrow hse hgA1 hgA2 hgA3 HTA1 HTA2 HTA3
  go_upto_region 5 with (fail)
  refine mixB_start [] (Cls w4) (by kernel_rfl) (Cls.of ((Below.refl _ _).drew)) (fun hCw => ?_)
  refine mixB_flt (by kernel_rfl) [0, 1, 2, 3, 4, 5, 6, 7, 8] 0 _ _ hCw (by kernel_rfl) ?_
  simp only [opsAt, List.map_cons, List.map_nil, List.toList_toArray, List.getD_cons_succ, List.getD_cons_zero]
  unfold Cls
  repeat (go_big_quiet_step (fail))
  refine wpQuiet_nil ?_
  (try rw [← Cls_def])
  refine mixB_end [] (by kernel_rfl) ?_
  refine wpList_nil ?_
  rw [show (⟨#[0]⟩ : ByteArray) ++ bs s = bs (0 :: s) by rw [bs_cons 0 s]; rfl, show (⟨#[0]⟩ : ByteArray) ++ bs t = bs (0 :: t) by rw [bs_cons 0 t]; rfl]
  refine Calm.normal ?_
  clear hCw c0 hg1 hg0 hi0 hss hst2
  go_wp2_with fail
  go_at_call 45
  refine (HTU.out _).mono ?_
  rintro e' w5 ⟨v, rfl, hown, hb⟩
  obtain ⟨pv, cv, rfl, hcells⟩ : ∃ pv cv, v = .slice pv D.length cv ∧ ∀ j (h : j < D.length), ∃ g, pv = some ⟨g, 0, none⟩ ∧ g < w5.heap.size ∧ w5.cell? ⟨g, j, none⟩ = some (.bool D[j]) := by
    rcases Nat.eq_zero_or_pos D.length with h0 | h0
    · rcases hown.2 with ⟨rfl, h0'⟩ | ⟨g, cap, cur, rfl, _⟩
      · exact ⟨none, 0, by rw [h0], fun j hj => by omega⟩
      · exact ⟨_, _, rfl, fun j hj => by omega⟩
    · obtain ⟨g, cap, rfl, _, hg, _, hc⟩ := own_open hown h0
      exact ⟨_, _, rfl, fun j hj => ⟨g, rfl, hg, hc j _ hj (by rw [bools, List.getElem?_map, List.getElem?_eq_getElem hj]; rfl)⟩⟩
  have hb45 : Below w4.heap.size w4 w5 := ((Below.refl _ _).drew).trans hb
  have HB5 := Lib.hid (HB4.out.trans (hb45.mono hsz4))
  have hsz5 := HB5.out.size
  have HV5 := Lib.hid (HV4.out.ext hb45)
  have HC := Lib.hid hcells
  have HSTART : Hid (0 :: s ≠ 0 :: t) := Lib.hid (fun h => HST.out (List.cons.inj h).2)
  clear hown hb hb45 hcells
  go_wp2
  go_loopw [75, 15, 16] (fun j x y wr => ∃ (k : Nat) (a b : List UInt8), j = .int .i64 (k : Int) ∧ x = .string (bs a) ∧ y = .string (bs b) ∧ k ≤ D.length ∧ a ≠ b ∧ a.length ≤ 2199023255552 ∧ b.length ≤ 2199023255552 ∧ upL (shaL a) (q.drop k) (D.drop k) = rootL l ∧ upL (shaL b) (V.drop k) (D.drop k) = rootL l ∧ Below w5.heap.size w5 wr) (fun j _ _ _ => D.length - (intOf j).toNat)
  case atStart => exact ⟨0, 0 :: s, 0 :: t, rfl, rfl, rfl, Nat.zero_le _, HSTART.out, by rw [List.length_cons]; omega, by rw [List.length_cons]; omega, Q3.out, O3.out, Below.refl _ _⟩
  case round =>
  clear HSTART
  obtain ⟨k, a, b, rfl, rfl, rfl, hk, hab, hal, hbl, hra, hrb, hbw⟩ := hrel
  have HRA := Lib.hid hra
  have HRB := Lib.hid hrb
  have HAB := Lib.hid hab
  have HBR := Lib.hid hbw
  have hszr := (HB5.out.trans (hbw.mono hsz5)).size
  have HBW := Lib.hid (HB5.out.trans (hbw.mono hsz5))
  have hsa := bs_size a
  have hsb := bs_size b
  clear hra hrb hbw hab
  by_cases hlt : k < D.length
  · have hj1 : k < q.length := by have := Q2.out; omega
    have hj2 : k < V.length := by have := O2.out; omega
    obtain ⟨g2, hp2, hg2, hc2⟩ := HC.out k hlt
    have hc2 := (HBR.out.cell (p := ⟨g2, k, none⟩) hg2).trans hc2
    have hs1 := upL_step (x := shaL a) hj1 hlt
    have hs2 := upL_step (x := shaL b) hj2 hlt
    have hq32 := Q1.out _ (List.getElem_mem hj1)
    have hv32 := O1.out _ (List.getElem_mem hj2)
    have HQC := Lib.hid (fun w' (hb : Below w.heap.size w w') => (HQ.out.ext hb) k hj1)
    have HVC := Lib.hid (fun w' (hb : Below w5.heap.size w5 w') => (HV5.out.ext hb) k hj2)
    generalize D[k] = d at hc2 hs1 hs2
    generalize q[k] = qk at HQC hs1 hq32
    generalize V[k] = vk at HVC hs2 hv32
    have HS1 := Lib.hid hs1
    have HS2 := Lib.hid hs2
    clear hs1 hs2 hg2
    subst hp2
    go_wp2_with fail
    go_at_call 23
    refine (sum_l a _ rfl wr (HK.out.ext HBW.out) (by omega)).mono ?_
    rintro e' w6 ⟨rfl, hb⟩
    have HB6 := Lib.hid (HBW.out.trans (hb.mono hszr))
    have HBR6 := Lib.hid (below_ext HBR.out hb)
    have hsz6 := HB6.out.size
    clear hb hc2
    go_wp2_with fail
    go_at_call 23
    refine (sum_l b _ rfl w6 (HK.out.ext HB6.out) (by omega)).mono ?_
    rintro e' w7 ⟨rfl, hb⟩
    have HB7 := Lib.hid (HB6.out.trans (hb.mono hsz6))
    have HBR7 := Lib.hid (below_ext HBR6.out hb)
    have hsz7 := HB7.out.size
    have hx32 := shaL_length a
    have hy32 := shaL_length b
    clear hb
    have hne : ((bs a).toList != (bs b).toList) = true := by rw [tl_bs, tl_bs]; simpa using HAB.out
    have hne2 : ((bs a).toList == (bs b).toList) = false := by rw [tl_bs, tl_bs, beq_eq_false_iff_ne]; exact HAB.out
    have hne3 : ¬ (bs a).toList = (bs b).toList := by rw [tl_bs, tl_bs]; exact HAB.out
    by_cases hxy : shaL a = shaL b
    · have hxe : ((bs (shaL a)).toList == (bs (shaL b)).toList) = true := by rw [tl_bs, tl_bs]; simpa using hxy
      have HXY := Lib.hid hxy
      clear hxy
      go_wp2
      go_ret3
      exact ⟨a, b, rfl, fun _ => ⟨HAB.out, HXY.out⟩, hal, hbl, HB7.out⟩
    · have hxe : ((bs (shaL a)).toList == (bs (shaL b)).toList) = false := by rw [tl_bs, tl_bs, beq_eq_false_iff_ne]; exact hxy
      have HNEW := Lib.hid (joinL_ne (b := d) hx32 hy32 hq32 hv32 hxy)
      have hla := joinL_length (x := shaL a) (p := qk) (b := d)
      have hlb := joinL_length (x := shaL b) (p := vk) (b := d)
      have HNA : Hid (upL (shaL (joinL (shaL a) qk d)) (q.drop (k + 1)) (D.drop (k + 1)) = rootL l) := Lib.hid (by rw [← HS1.out]; exact HRA.out)
      have HNB : Hid (upL (shaL (joinL (shaL b) vk d)) (V.drop (k + 1)) (D.drop (k + 1)) = rootL l) := Lib.hid (by rw [← HS2.out]; exact HRB.out)
      obtain ⟨g3, o3, hp3, _, hg3, hc3⟩ := HQC.out w7 HB7.out
      obtain ⟨g4, o4, hp4, _, hg4, hc4⟩ := HVC.out w7 HBR7.out
      have hla' : (joinL (shaL a) qk d).length ≤ 2199023255552 := by omega
      have hlb' : (joinL (shaL b) vk d).length ≤ 2199023255552 := by omega
      obtain ⟨x, hx⟩ : ∃ x, x = shaL a := ⟨_, rfl⟩
      obtain ⟨y, hy⟩ : ∃ y, y = shaL b := ⟨_, rfl⟩
      rw [← hx] at hxe hx32 hla' HNEW HNA
      rw [← hy] at hxe hy32 hlb' HNEW HNB
      rw [← hx, ← hy]
      clear hxy HQC HVC HS1 HS2 HRA HRB hla hlb hx hy
      subst hp3
      subst hp4
      go_upto_region 11 with (fail)
      refine mixB_start [] (Cls w7) (by kernel_rfl) (Cls.of ((Below.refl _ _).drew)) (fun hCw => ?_)
      refine mixB_flt (by kernel_rfl) [0, 1, 2, 3, 4, 5, 7, 8, 9, 10, 11, 12] 4 _ _ hCw (by kernel_rfl) ?_
      simp only [opsAt, List.map_cons, List.map_nil, List.toList_toArray, List.getD_cons_succ, List.getD_cons_zero]
      unfold Cls
      repeat (go_big_quiet_step (fail))
      refine wpQuiet_nil ?_
      (try rw [← Cls_def])
      refine mixB_ch (i := 6) (fuel := 3) (by kernel_rfl) (by kernel_rfl) ?_
      simp only [opsAt, List.map_cons, List.map_nil, List.toList_toArray, List.getD_cons_succ, List.getD_cons_zero]
      go_wp2_with (go_at_call 46; refine (joined_any x qk d _ (by omega) (by omega)).mono ?_; rintro e' w8 ⟨rfl, rfl⟩)
      refine ThenB.mk (hCw) (fun hCw => ?_)
      refine mixB_ch (i := 13) (fuel := 2) (by kernel_rfl) (by kernel_rfl) ?_
      simp only [opsAt, List.map_cons, List.map_nil, List.toList_toArray, List.getD_cons_succ, List.getD_cons_zero]
      go_wp2_with (go_at_call 46; refine (joined_any y vk d _ (by omega) (by omega)).mono ?_; rintro e' w8 ⟨rfl, rfl⟩)
      refine ThenB.mk (hCw) (fun hCw => ?_)
      refine mixB_flt (by kernel_rfl) [14, 15] 0 _ _ hCw (by kernel_rfl) ?_
      simp only [opsAt, List.map_cons, List.map_nil, List.toList_toArray, List.getD_cons_succ, List.getD_cons_zero]
      unfold Cls
      repeat (go_big_quiet_step (fail))
      refine wpQuiet_nil ?_
      (try rw [← Cls_def])
      refine mixB_end [] (by kernel_rfl) ?_
      refine wpList_nil ?_
      refine Calm.normal ?_
      clear hc3 hc4 hg3 hg4 hxe hne hne2 hne3
      have HBE := Lib.hid (HBR7.out.drew)
      clear hCw
      go_wp2
      go_roundw
      case rel => exact ⟨k + 1, _, _, by go_num, rfl, rfl, by omega, HNEW.out, hla', hlb', HNA.out, HNB.out, HBE.out⟩
      case measure => simp [intOf]; omega
  · have hxy : shaL a = shaL b := by
      have h1 := HRA.out
      have h2 := HRB.out
      rw [List.drop_eq_nil_of_le (by omega : D.length ≤ k)] at h1 h2
      rw [show ∀ z : List (List UInt8), upL (shaL a) z [] = shaL a from fun z => by cases z <;> rfl] at h1
      rw [show ∀ z : List (List UInt8), upL (shaL b) z [] = shaL b from fun z => by cases z <;> rfl] at h2
      rw [h1, h2]
    have HXY := Lib.hid hxy
    clear hxy
    go_wp2
    go_ret3
    exact ⟨a, b, rfl, fun _ => ⟨HAB.out, HXY.out⟩, hal, hbl, HBW.out⟩
end Go.Proofs.YtfnlehnhcekpkaaDoor
